/- Further functions. -/
import Derived.Test.YtmgfkpfacdlfbaaGXReadStaten3
namespace Go.Proofs.Ytmgfkpfacdlfbaa
open Go Go.Z Go.Proofs Go.MuLone Go.ChangeShapes Go.WideShapes Go.ChangeAt Go.RowKit
set_option linter.unusedVariables false
set_option linter.unusedSimpArgs false
noncomputable def impl_reader_blocks.s0 (x0 : S_reader) (y5 : Int × Int × Bool) (u17 : List S_Block) (u14 : Int) (u15 : Int) (u16 : Bool) : Option (((List S_Block) × Int × Int × Bool) ⊕ Ex ((List S_Block) × Int × Bool) ((List S_Block) × Int × Bool)) :=
  (bif (decide (u14 < y5.1)) then ((impl_reader_next.f (⟨x0.list, u15, u16⟩ : S_reader) 0 11).bind fun y41 => ((impl_reader_next.f (⟨x0.list, y41.2.1, y41.2.2⟩ : S_reader) 0 7).bind fun y43 => ((impl_reader_next.f (⟨x0.list, y43.2.1, y43.2.2⟩ : S_reader) 0 999999).bind fun y45 => (if u17.length + ([(⟨y41.1, y43.1, y45.1⟩ : S_Block)]).length ≤ 1073741824 then (some (.inl ((u17 ++ ([(⟨y41.1, y43.1, y45.1⟩ : S_Block)])), (w64 (u14 + 1)), y45.2.1, y45.2.2))) else none)))) else (some (.inr (.out (u17, u15, u16)))))
noncomputable def impl_reader_blocks.f (x0 : S_reader) (x1 : Int) : Option ((List S_Block) × Int × Bool) :=
  ((impl_reader_next.f x0 0 x1).bind fun y5 => ((loopO (fun s => impl_reader_blocks.s0 x0 y5 s.1 s.2.1 s.2.2.1 s.2.2.2) (([] : List S_Block), 0, y5.2.1, y5.2.2)).bind fun o => match o with | .out (u22, u27, u28) => (some (u22, u27, u28)) | .ret r => (some r)))
set_option maxRecDepth 100000 in
set_option maxHeartbeats 0 in
theorem impl_reader_blocks_t (w0 : World) (b0_ : Nat) (x0 : S_reader) (A0_0 : Option Addr) (p0_0 : Nat) (k0_0 : Chunk) (v0_0 : View (Lay.int .i64) A0_0 p0_0 x0.list k0_0) (w0_0 : Has w0 k0_0) (x1 : Int) (hs0 : Sat (blks [(1, [(b0_, .cells #[.slice A0_0 x0.list.length p0_0, .int .i64 x0.at_, .bool x0.bad] 183 (0, 0))])]) w0 w0 [(2, k0_0)] [(1, [(b0_, .cells #[.slice A0_0 x0.list.length p0_0, .int .i64 x0.at_, .bool x0.bad] 183 (0, 0))])]) (r : (List S_Block) × Int × Bool) (H : impl_reader_blocks.f x0 x1 = some r) :
    Calls Try.prog 138 #[.pointer (some ⟨b0_, 0, none⟩), .int .i64 x1] w0 (Ret (fun v w => ∃ (A0 : Option Addr) (p0 : Nat) (k0 : Chunk), v = .slice A0 r.1.length p0 ∧ Own L_Block 81 A0 p0 r.1 k0 ∧ Sat (blks [(1, [(b0_, .cells #[.slice A0_0 x0.list.length p0_0, .int .i64 x0.at_, .bool x0.bad] 183 (0, 0))])]) w0 w [] [(0, k0), (1, [(b0_, .cells #[.slice A0_0 x0.list.length p0_0, .int .i64 r.2.1, .bool r.2.2] 183 (0, 0))])])) := by
  have hs := hs0
  unfold impl_reader_blocks.f at H
  refine enter Try.func138 rfl Try.ntmps138 rfl fun a hk => ?_
  apply wp_seq_k; intro K1 hK1
  apply wp_region_lit
  refine sa _ rfl hk rfl rfl rfl fun a hk => ?_
  show wpList _ _ _ [] _ _
  refine wpList_nil ?_
  refine hK1 _ _ ?_
  apply wp_seq_k; intro K2 hK2
  apply wp_region_lit
  refine sa _ rfl hk rfl rfl rfl fun a hk => ?_
  show wpList _ _ _ [] _ _
  refine wpList_nil ?_
  refine hK2 _ _ ?_
  apply wp_seq_k; intro K3 hK3
  apply wp_seq_k; intro K4 hK4
  apply wp_region_lit
  refine sm _ rfl hk rfl rfl rfl fun a hk => ?_
  refine sm _ rfl hk rfl rfl rfl fun a hk => ?_
  obtain ⟨y5, h6, H⟩ := bind_some H
  refine sc rfl en141 hk rfl rfl rfl (impl_reader_next_t _ b0_ x0 A0_0 p0_0 _ v0_0 (hs.hasD (k := 2) rfl) 0 x1 ((hs.hand [(1, 1)] rfl).dpick [(2, 2)] rfl) _ h6) ?_
  rintro _ w ⟨rfl, hG⟩ a hk
  have hs := hs.back [(1, 1)] rfl hG [1] rfl
  refine sm _ rfl hk rfl rfl rfl fun a hk => ?_
  show wpList _ _ _ [] _ _
  refine wpList_nil ?_
  refine hK4 _ _ ?_
  obtain ⟨o29, h30, HL31⟩ := bind_some H
  clear H
  obtain ⟨R32, hR32⟩ : ∃ R : Act → World → Prop, R = fun a w => ∃ (u22 : List S_Block) (u27 : Int) (u28 : Bool) (A25 : Option Addr) (p26 : Nat) (k23 : Chunk), o29 = .out (u22, u27, u28) ∧ Kn [(0, (.pointer (some ⟨b0_, 0, none⟩))), (5, (.slice A25 u22.length p26))] 23 a ∧ Sat (blks [(1, [(b0_, .cells #[.slice A0_0 x0.list.length p0_0, .int .i64 x0.at_, .bool x0.bad] 183 (0, 0))])]) w0 w [(2, k0_0)] [(5, k23), (1, [(b0_, .cells #[.slice A0_0 x0.list.length p0_0, .int .i64 u27, .bool u28] 183 (0, 0))])] ∧ Own L_Block 81 A25 p26 u22 k23 := ⟨_, rfl⟩
  refine wp_cutq R32 ?_ ?_
  ·refine wp_block ?_
   obtain ⟨fu34, h30⟩ := loopO_some h30
   obtain ⟨I33, hI33⟩ : ∃ I : Nat → Act → World → Prop, I = fun fu a w => ∃ (u17 : List S_Block) (u14 : Int) (u15 : Int) (u16 : Bool) (A20 : Option Addr) (p21 : Nat) (k18 : Chunk), loopN (fun s => impl_reader_blocks.s0 x0 y5 s.1 s.2.1 s.2.2.1 s.2.2.2) fu (u17, u14, u15, u16) = some o29 ∧ Kn [(0, (.pointer (some ⟨b0_, 0, none⟩))), (5, (.slice A20 u17.length p21)), (8, (.int .i64 y5.1)), (9, (.int .i64 u14))] 23 a ∧ Sat (blks [(1, [(b0_, .cells #[.slice A0_0 x0.list.length p0_0, .int .i64 x0.at_, .bool x0.bad] 183 (0, 0))])]) w0 w [(2, k0_0)] [(5, k18), (1, [(b0_, .cells #[.slice A0_0 x0.list.length p0_0, .int .i64 u15, .bool u16] 183 (0, 0))])] ∧ Own L_Block 81 A20 p21 u17 k18 := ⟨_, rfl⟩
   refine wp_loop_ghost I33 fu34 ?_ ?_
   ·rw [hI33]
    exact ⟨([] : List S_Block), 0, y5.2.1, y5.2.2, none, 0, _, h30, (hk.c 0 rfl (hk.c 5 rfl (hk.c 8 rfl (hk.c 9 rfl hk.k)))), ((hs.addNil 1005).pick [(5, 1005), (1, 1)] rfl), Own.nil _ _⟩
   ·clear h30 hk hs
    intro fu34 a w hI0
    rw [hI33] at hI0
    obtain ⟨u17, u14, u15, u16, A20, p21, k18, hi, hk, hs, o19⟩ := hI0
    obtain ⟨x35, H, h36⟩ := loop_round hi
    try dsimp only at H
    unfold impl_reader_blocks.s0 at H
    apply wp_seq_k; intro K37 hK37
    apply wp_region_lit
    refine sv (.bool (decide (u14 < y5.1))) hk rfl rfl rfl fun a hk => ?_
    show wpList _ _ _ [] _ _
    refine wpList_nil ?_
    refine hK37 _ _ ?_
    apply wp_seq_k; intro K38 hK38
    rcases cond_some H with ⟨c39, H⟩ | ⟨c39, H⟩
    ·have hk := hk.lit 10 c39 rfl
     refine cnd_true hk rfl rfl ?_
     refine wp_skip ?_
     refine hK38 _ _ ?_
     apply wp_seq_k; intro K40 hK40
     refine wp_block ?_
     apply wp_region_lit
     refine sm _ rfl hk rfl rfl rfl fun a hk => ?_
     refine sm _ rfl hk rfl rfl rfl fun a hk => ?_
     obtain ⟨y41, h42, H⟩ := bind_some H
     refine sc rfl en141 hk rfl rfl rfl (impl_reader_next_t _ b0_ (⟨x0.list, u15, u16⟩ : S_reader) A0_0 p0_0 _ v0_0 (hs.hasD (k := 2) rfl) 0 11 ((hs.hand [(1, 1)] rfl).dpick [(2, 2)] rfl) _ h42) ?_
     rintro _ w ⟨rfl, hG⟩ a hk
     have hs := hs.back [(1, 1)] rfl hG [1] rfl
     refine sm _ rfl hk rfl rfl rfl fun a hk => ?_
     obtain ⟨y43, h44, H⟩ := bind_some H
     refine sc rfl en141 hk rfl rfl rfl (impl_reader_next_t _ b0_ (⟨x0.list, y41.2.1, y41.2.2⟩ : S_reader) A0_0 p0_0 _ v0_0 (hs.hasD (k := 2) rfl) 0 7 ((hs.hand [(1, 1)] rfl).dpick [(2, 2)] rfl) _ h44) ?_
     rintro _ w ⟨rfl, hG⟩ a hk
     have hs := hs.back [(1, 1)] rfl hG [1] rfl
     refine sm _ rfl hk rfl rfl rfl fun a hk => ?_
     obtain ⟨y45, h46, H⟩ := bind_some H
     refine sc rfl en141 hk rfl rfl rfl (impl_reader_next_t _ b0_ (⟨x0.list, y43.2.1, y43.2.2⟩ : S_reader) A0_0 p0_0 _ v0_0 (hs.hasD (k := 2) rfl) 0 999999 ((hs.hand [(1, 1)] rfl).dpick [(2, 2)] rfl) _ h46) ?_
     rintro _ w ⟨rfl, hG⟩ a hk
     have hs := hs.back [(1, 1)] rfl hG [1] rfl
     refine sbd (pv := [(0, (.int .i64 y41.1)), (1, (.int .i64 y43.1)), (2, (.int .i64 y45.1))]) rfl hk rfl rfl rfl (bd81_14 y41.1 y43.1 y45.1) fun a hk => ?_
     refine sbs (L := L_Block) (pv := [(0, (.agg #[.int .i64 y41.1, .int .i64 y43.1, .int .i64 y45.1]))]) (xs := [(⟨y41.1, y43.1, y45.1⟩ : S_Block)]) (ess := [[.int .i64 y41.1, .int .i64 y43.1, .int .i64 y45.1]]) 6 hs rfl hk rfl rfl rfl un26 (bs81_6 y41.1 y43.1 y45.1) (AllOwn.cons0 ⟨rfl, rfl⟩ AllOwn.nil) rfl rfl rfl fun b47 k48 w a hk o49 hs => ?_
     rcases ite_some H with ⟨c50, H⟩ | ⟨_, H⟩
     rotate_left
     ·cases H
     refine sap 5 (xs := u17) (ys := [(⟨y41.1, y43.1, y45.1⟩ : S_Block)]) (flat_flat : (L_Block).Flat) hs rfl o19 o49.view (hs.hasG (k := 6) rfl) rfl hk rfl rfl rfl rfl rfl rfl un26 mk81 rfl rfl rfl c50 fun A51 p52 k53 w a hk o54 hs => ?_
     refine sa _ rfl hk rfl rfl rfl fun a hk => ?_
     show wpList _ _ _ [] _ _
     refine wpList_nil ?_
     refine hK40 _ _ ?_
     apply wp_region_lit
     refine sv (.int .i64 (w64 (u14 + 1))) hk rfl rfl rfl fun a hk => ?_
     refine sm _ rfl hk rfl rfl rfl fun a hk => ?_
     show wpList _ _ _ [] _ _
     refine wpList_nil ?_
     obtain rfl := Option.some.inj H
     obtain ⟨m55, hmm55, h36⟩ := h36
     show ∃ n', n' < _ ∧ I33 n' _ _
     refine ⟨m55, hmm55, ?_⟩
     rw [hI33]
     exact ⟨(u17 ++ ([(⟨y41.1, y43.1, y45.1⟩ : S_Block)])), (w64 (u14 + 1)), y45.2.1, y45.2.2, A51, p52, _, h36, (hk.c 0 rfl (hk.c 5 rfl (hk.c 8 rfl (hk.c 9 rfl hk.k)))), (hs.pick [(5, 5), (1, 1)] rfl), o54⟩
    ·have hk := hk.lit 10 c39 rfl
     refine cnd_false hk rfl rfl ?_
     refine wp_exit ?_
     obtain rfl := Option.some.inj H
     show R32 _ _
     rw [hR32]
     exact ⟨u17, u15, u16, A20, p21, _, h36.symm, (hk.c 0 rfl (hk.c 5 rfl hk.k)), (hs.pick [(5, 5), (1, 1)] rfl), o19⟩
  ·intro a w hR0
   rw [hR32] at hR0
   obtain ⟨u22, u27, u28, A25, p26, k23, rfl, hk, hs, o24⟩ := hR0
   have H := HL31
   try dsimp only at H
   refine hK3 _ _ ?_
   apply wp_seq_k; intro K56 hK56
   apply wp_region_lit
   refine sm _ rfl hk rfl rfl rfl fun a hk => ?_
   refine sa _ rfl hk rfl rfl rfl fun a hk => ?_
   show wpList _ _ _ [] _ _
   refine wpList_nil ?_
   refine hK56 _ _ ?_
   refine wp_ret ?_
   obtain rfl := Option.some.inj H
   exact fin hk _ [(.slice A25 u22.length p26)] rfl ⟨rfl, trivial⟩ ⟨A25, p26, _, rfl, o24, (hs.pick [(0, 5), (1, 1)] rfl).dnil⟩

noncomputable def impl_reader_ends_c1.f (x0 : Int) : Option (Bool) :=
  (some (x0 == 0))
set_option maxRecDepth 100000 in
set_option maxHeartbeats 0 in
theorem impl_reader_ends_c1_t (w0 : World) (x0 : Int) (r : Bool) (H : impl_reader_ends_c1.f x0 = some r) :
    Calls Try.prog 173 #[.int .i64 x0] w0 (Ret (fun v w => v = .bool r ∧ Sat [] w0 w [] [])) := by
  have hs : Sat [] w0 w0 [] [] := Sat.init w0 [] [] (by simp) (by simp) List.nodup_nil (by simp [blks])
  unfold impl_reader_ends_c1.f at H
  refine enter Try.func173 rfl Try.ntmps173 rfl fun a hk => ?_
  apply wp_seq_k; intro K1 hK1
  apply wp_region_lit
  refine sa _ rfl hk rfl rfl rfl fun a hk => ?_
  show wpList _ _ _ [] _ _
  refine wpList_nil ?_
  refine hK1 _ _ ?_
  apply wp_seq_k; intro K2 hK2
  apply wp_region_lit
  refine sm _ rfl hk rfl rfl rfl fun a hk => ?_
  refine sv (.bool (x0 == 0)) hk rfl rfl rfl fun a hk => ?_
  refine sa _ rfl hk rfl rfl rfl fun a hk => ?_
  show wpList _ _ _ [] _ _
  refine wpList_nil ?_
  refine hK2 _ _ ?_
  refine wp_ret ?_
  obtain rfl := Option.some.inj H
  exact fin hk _ [(.bool (x0 == 0))] rfl ⟨rfl, trivial⟩ ⟨rfl, (hs.pick [] rfl).dnil⟩

noncomputable def impl_reader_ends.f (x0 : S_reader) : Option (Bool × Int × Bool) :=
  (((bif (!x0.bad) then (if 0 ≤ x0.at_ ∧ x0.at_ ≤ (x0.list.length : Int) then ((impl_areAll_int.f (x0.list.drop x0.at_.toNat) impl_reader_ends_c1.f).bind fun y13 => (some y13)) else none) else (some false)) : Option (Bool)).bind fun u4 => (some (u4, x0.at_, x0.bad)))
set_option maxRecDepth 100000 in
set_option maxHeartbeats 0 in
theorem impl_reader_ends_t (w0 : World) (b0_ : Nat) (x0 : S_reader) (A0_0 : Option Addr) (p0_0 : Nat) (k0_0 : Chunk) (v0_0 : View (Lay.int .i64) A0_0 p0_0 x0.list k0_0) (w0_0 : Has w0 k0_0) (hs0 : Sat (blks [(1, [(b0_, .cells #[.slice A0_0 x0.list.length p0_0, .int .i64 x0.at_, .bool x0.bad] 183 (0, 0))])]) w0 w0 [(2, k0_0)] [(1, [(b0_, .cells #[.slice A0_0 x0.list.length p0_0, .int .i64 x0.at_, .bool x0.bad] 183 (0, 0))])]) (r : Bool × Int × Bool) (H : impl_reader_ends.f x0 = some r) :
    Calls Try.prog 139 #[.pointer (some ⟨b0_, 0, none⟩)] w0 (Ret (fun v w => v = .bool r.1 ∧ Sat (blks [(1, [(b0_, .cells #[.slice A0_0 x0.list.length p0_0, .int .i64 x0.at_, .bool x0.bad] 183 (0, 0))])]) w0 w [] [(0, [(b0_, .cells #[.slice A0_0 x0.list.length p0_0, .int .i64 r.2.1, .bool r.2.2] 183 (0, 0))])])) := by
  have hs := hs0
  unfold impl_reader_ends.f at H
  refine enter Try.func139 rfl Try.ntmps139 rfl fun a hk => ?_
  apply wp_seq_k; intro K1 hK1
  apply wp_region_lit
  refine sa _ rfl hk rfl rfl rfl fun a hk => ?_
  show wpList _ _ _ [] _ _
  refine wpList_nil ?_
  refine hK1 _ _ ?_
  apply wp_seq_k; intro K2 hK2
  obtain ⟨o5, h6, HL7⟩ := bind_some H
  clear H
  obtain ⟨R8, hR8⟩ : ∃ R : Act → World → Prop, R = fun a w => ∃ (u4 : Bool), u4 = o5 ∧ Kn [(0, (.pointer (some ⟨b0_, 0, none⟩))), (2, (.bool u4))] 20 a ∧ Sat (blks [(1, [(b0_, .cells #[.slice A0_0 x0.list.length p0_0, .int .i64 x0.at_, .bool x0.bad] 183 (0, 0))])]) w0 w [(2, k0_0)] [(1, [(b0_, .cells #[.slice A0_0 x0.list.length p0_0, .int .i64 x0.at_, .bool x0.bad] 183 (0, 0))])] := ⟨_, rfl⟩
  refine wp_cutq R8 ?_ ?_
  ·have H := h6
   refine wp_region_mix [(0, true), (1, true), (2, true), (3, true), (4, true), (5, true), (6, true), (7, true), (8, true), (9, true), (10, true), (11, true), (12, true), (13, true), (14, true), (15, true), (16, true), (17, true)] mo (by kernel_rfl) hs fun _ => ?_
   have hs := hs.drew
   refine qst (.pointer (some ⟨b0_, 0, none⟩)) hk rfl rfl rfl rfl (fun w hs => sm _ rfl hk rfl rfl rfl fun a hk => qe hk) fun a hk => ?_
   refine qst (.pointer (some ⟨b0_, 0, none⟩)) hk rfl rfl rfl rfl (fun w hs => snk rfl hk rfl rfl rfl fun a hk => qe hk) fun a hk => ?_
   refine qst (.pointer (some ⟨b0_, 2, none⟩)) hk rfl rfl rfl rfl (fun w hs => sf ⟨b0_, 2, none⟩ rfl hk rfl rfl rfl fd183_2 rfl fun a hk => qe hk) fun a hk => ?_
   refine qst (.bool x0.bad) hk rfl rfl rfl rfl (fun w hs => sl rfl hk rfl rfl rfl ag4 (box_cell hs (k := 1) rfl rfl) fun a hk => qe hk) fun a hk => ?_
   refine qst (.bool (!x0.bad)) hk rfl rfl rfl rfl (fun w hs => sv (.bool (!x0.bad)) hk rfl rfl rfl fun a hk => qe hk) fun a hk => ?_
   refine qst (.bool (!x0.bad)) hk rfl rfl rfl rfl (fun w hs => sm _ rfl hk rfl rfl rfl fun a hk => qe hk) fun a hk => ?_
   rcases cond_some H with ⟨c9, H⟩ | ⟨c9, H⟩
   ·have hk := hk.lit 8 c9 rfl
    refine qst (.pointer (some ⟨b0_, 0, none⟩)) hk rfl rfl rfl rfl (fun w hs => sm _ rfl hk rfl rfl rfl fun a hk => qe hk) fun a hk => ?_
    refine qst (.pointer (some ⟨b0_, 0, none⟩)) hk rfl rfl rfl rfl (fun w hs => snk rfl hk rfl rfl rfl fun a hk => qe hk) fun a hk => ?_
    refine qst (.pointer (some ⟨b0_, 0, none⟩)) hk rfl rfl rfl rfl (fun w hs => sf ⟨b0_, 0, none⟩ rfl hk rfl rfl rfl fd183_0 rfl fun a hk => qe hk) fun a hk => ?_
    refine qst (.slice A0_0 x0.list.length p0_0) hk rfl rfl rfl rfl (fun w hs => sl rfl hk rfl rfl rfl ag31 (box_cell hs (k := 1) rfl rfl) fun a hk => qe hk) fun a hk => ?_
    refine qst (.pointer (some ⟨b0_, 0, none⟩)) hk rfl rfl rfl rfl (fun w hs => sm _ rfl hk rfl rfl rfl fun a hk => qe hk) fun a hk => ?_
    refine qst (.pointer (some ⟨b0_, 0, none⟩)) hk rfl rfl rfl rfl (fun w hs => snk rfl hk rfl rfl rfl fun a hk => qe hk) fun a hk => ?_
    refine qst (.pointer (some ⟨b0_, 1, none⟩)) hk rfl rfl rfl rfl (fun w hs => sf ⟨b0_, 1, none⟩ rfl hk rfl rfl rfl fd183_1 rfl fun a hk => qe hk) fun a hk => ?_
    refine qst (.int .i64 x0.at_) hk rfl rfl rfl rfl (fun w hs => sl rfl hk rfl rfl rfl ag3 (box_cell hs (k := 1) rfl rfl) fun a hk => qe hk) fun a hk => ?_
    rcases ite_some H with ⟨c10, H⟩ | ⟨_, H⟩
    rotate_left
    ·cases H
    refine qst (.slice (if p0_0 = x0.at_.toNat then A0_0 else (A0_0 : Option Addr).map (·.add (x0.at_.toNat * 1))) (x0.list.length - x0.at_.toNat) (p0_0 - x0.at_.toNat)) hk rfl rfl rfl rfl (fun w hs => sll_l rfl hk rfl rfl rfl rfl un31 sz3 c10.1 c10.2 fun a hk => qe hk) fun a hk => ?_
    have v11 : View (Lay.int .i64) (if p0_0 = x0.at_.toNat then A0_0 else (A0_0 : Option Addr).map (·.add (x0.at_.toNat * 1))) (p0_0 - x0.at_.toNat) (x0.list.drop x0.at_.toNat) k0_0 := (v0_0).dropv x0.at_.toNat (by omega)
    have lh12 : (x0.list.drop x0.at_.toNat).length = (x0.list.length - x0.at_.toNat) := (by rw [List.length_drop])
    have hk := hk.re 17 (v' := (.slice (if p0_0 = x0.at_.toNat then A0_0 else (A0_0 : Option Addr).map (·.add (x0.at_.toNat * 1))) (x0.list.drop x0.at_.toNat).length (p0_0 - x0.at_.toNat))) rfl (by rw [lh12])
    obtain ⟨y13, h14, H⟩ := bind_some H
    refine qst (.bool y13) hk rfl rfl rfl rfl (fun w hs => sc rfl en114 hk rfl rfl rfl (impl_areAll_int_t _ (if p0_0 = x0.at_.toNat then A0_0 else (A0_0 : Option Addr).map (·.add (x0.at_.toNat * 1))) (p0_0 - x0.at_.toNat) (x0.list.drop x0.at_.toNat) _ v11 (hs.hasD (k := 2) rfl) 173 [] en173 impl_reader_ends_c1.f [] (fun w _ z0 r h => impl_reader_ends_c1_t w z0 r h) (Has.nil _) _ h14) fun _ w hR a hk => qc hR hk) fun a hk => ?_
    refine qst (.bool y13) hk rfl rfl rfl rfl (fun w hs => sv (.bool y13) hk rfl rfl rfl fun a hk => qe hk) fun a hk => ?_
    refine qst (.bool y13) hk rfl rfl rfl rfl (fun w hs => sa _ rfl hk rfl rfl rfl fun a hk => qe hk) fun a hk => ?_
    refine wml_nil fun w hF _ => ?_
    have hs := hs.f hF
    obtain rfl := Option.some.inj H
    show R8 _ _
    rw [hR8]
    exact ⟨y13, rfl, (hk.c 0 rfl (hk.c 2 rfl hk.k)), (hs.pick [(1, 1)] rfl)⟩
   ·have hk := hk.lit 8 c9 rfl
    refine qsk hk rfl rfl rfl rfl fun a hk => ?_
    refine qsk hk rfl rfl rfl rfl fun a hk => ?_
    refine qsk hk rfl rfl rfl rfl fun a hk => ?_
    refine qsk hk rfl rfl rfl rfl fun a hk => ?_
    refine qsk hk rfl rfl rfl rfl fun a hk => ?_
    refine qsk hk rfl rfl rfl rfl fun a hk => ?_
    refine qsk hk rfl rfl rfl rfl fun a hk => ?_
    refine qsk hk rfl rfl rfl rfl fun a hk => ?_
    refine qsk hk rfl rfl rfl rfl fun a hk => ?_
    refine qsk hk rfl rfl rfl rfl fun a hk => ?_
    refine qst (.bool false) hk rfl rfl rfl rfl (fun w hs => sv (.bool false) hk rfl rfl rfl fun a hk => qe hk) fun a hk => ?_
    refine qst (.bool false) hk rfl rfl rfl rfl (fun w hs => sa _ rfl hk rfl rfl rfl fun a hk => qe hk) fun a hk => ?_
    refine wml_nil fun w hF _ => ?_
    have hs := hs.f hF
    obtain rfl := Option.some.inj H
    show R8 _ _
    rw [hR8]
    exact ⟨false, rfl, (hk.c 0 rfl (hk.c 2 rfl hk.k)), (hs.pick [(1, 1)] rfl)⟩
  ·intro a w hR0
   rw [hR8] at hR0
   obtain ⟨u4, rfl, hk, hs⟩ := hR0
   have H := HL7
   try dsimp only at H
   refine hK2 _ _ ?_
   refine wp_ret ?_
   obtain rfl := Option.some.inj H
   exact fin hk _ [(.bool u4)] rfl ⟨rfl, trivial⟩ ⟨rfl, (hs.pick [(0, 1)] rfl).dnil⟩

noncomputable def impl_reader_several.s0 (x0 : S_reader) (x1 : Int) (x2 : Int) (x3 : Int) (u15 : List Int) (u12 : Int) (u13 : Int) (u14 : Bool) : Option (((List Int) × Int × Int × Bool) ⊕ Ex ((List Int) × Int × Bool) ((List Int) × Int × Bool)) :=
  (bif (decide (u12 < x1)) then ((impl_reader_next.f (⟨x0.list, u13, u14⟩ : S_reader) x2 x3).bind fun y39 => (if u15.length + ([y39.1]).length ≤ 1073741824 then (some (.inl ((u15 ++ ([y39.1])), (w64 (u12 + 1)), y39.2.1, y39.2.2))) else none)) else (some (.inr (.out (u15, u13, u14)))))
noncomputable def impl_reader_several.f (x0 : S_reader) (x1 : Int) (x2 : Int) (x3 : Int) : Option ((List Int) × Int × Bool) :=
  ((loopO (fun s => impl_reader_several.s0 x0 x1 x2 x3 s.1 s.2.1 s.2.2.1 s.2.2.2) (([] : List Int), 0, x0.at_, x0.bad)).bind fun o => match o with | .out (u20, u25, u26) => (some (u20, u25, u26)) | .ret r => (some r))
set_option maxRecDepth 100000 in
set_option maxHeartbeats 0 in
theorem impl_reader_several_t (w0 : World) (b0_ : Nat) (x0 : S_reader) (A0_0 : Option Addr) (p0_0 : Nat) (k0_0 : Chunk) (v0_0 : View (Lay.int .i64) A0_0 p0_0 x0.list k0_0) (w0_0 : Has w0 k0_0) (x1 : Int) (x2 : Int) (x3 : Int) (hs0 : Sat (blks [(1, [(b0_, .cells #[.slice A0_0 x0.list.length p0_0, .int .i64 x0.at_, .bool x0.bad] 183 (0, 0))])]) w0 w0 [(2, k0_0)] [(1, [(b0_, .cells #[.slice A0_0 x0.list.length p0_0, .int .i64 x0.at_, .bool x0.bad] 183 (0, 0))])]) (r : (List Int) × Int × Bool) (H : impl_reader_several.f x0 x1 x2 x3 = some r) :
    Calls Try.prog 140 #[.pointer (some ⟨b0_, 0, none⟩), .int .i64 x1, .int .i64 x2, .int .i64 x3] w0 (Ret (fun v w => ∃ (A0 : Option Addr) (p0 : Nat) (k0 : Chunk), v = .slice A0 r.1.length p0 ∧ Own (Lay.int .i64) 3 A0 p0 r.1 k0 ∧ Sat (blks [(1, [(b0_, .cells #[.slice A0_0 x0.list.length p0_0, .int .i64 x0.at_, .bool x0.bad] 183 (0, 0))])]) w0 w [] [(0, k0), (1, [(b0_, .cells #[.slice A0_0 x0.list.length p0_0, .int .i64 r.2.1, .bool r.2.2] 183 (0, 0))])])) := by
  have hs := hs0
  unfold impl_reader_several.f at H
  refine enter Try.func140 rfl Try.ntmps140 rfl fun a hk => ?_
  apply wp_seq_k; intro K1 hK1
  apply wp_region_lit
  refine sa _ rfl hk rfl rfl rfl fun a hk => ?_
  show wpList _ _ _ [] _ _
  refine wpList_nil ?_
  refine hK1 _ _ ?_
  apply wp_seq_k; intro K2 hK2
  apply wp_region_lit
  refine sa _ rfl hk rfl rfl rfl fun a hk => ?_
  show wpList _ _ _ [] _ _
  refine wpList_nil ?_
  refine hK2 _ _ ?_
  apply wp_seq_k; intro K3 hK3
  apply wp_seq_k; intro K4 hK4
  apply wp_region_lit
  refine sm _ rfl hk rfl rfl rfl fun a hk => ?_
  refine sm _ rfl hk rfl rfl rfl fun a hk => ?_
  show wpList _ _ _ [] _ _
  refine wpList_nil ?_
  refine hK4 _ _ ?_
  obtain ⟨o27, h28, HL29⟩ := bind_some H
  clear H
  obtain ⟨R30, hR30⟩ : ∃ R : Act → World → Prop, R = fun a w => ∃ (u20 : List Int) (u25 : Int) (u26 : Bool) (A23 : Option Addr) (p24 : Nat) (k21 : Chunk), o27 = .out (u20, u25, u26) ∧ Kn [(0, (.pointer (some ⟨b0_, 0, none⟩))), (9, (.slice A23 u20.length p24))] 22 a ∧ Sat (blks [(1, [(b0_, .cells #[.slice A0_0 x0.list.length p0_0, .int .i64 x0.at_, .bool x0.bad] 183 (0, 0))])]) w0 w [(2, k0_0)] [(5, k21), (1, [(b0_, .cells #[.slice A0_0 x0.list.length p0_0, .int .i64 u25, .bool u26] 183 (0, 0))])] ∧ Own (Lay.int .i64) 3 A23 p24 u20 k21 := ⟨_, rfl⟩
  refine wp_cutq R30 ?_ ?_
  ·refine wp_block ?_
   obtain ⟨fu32, h28⟩ := loopO_some h28
   obtain ⟨I31, hI31⟩ : ∃ I : Nat → Act → World → Prop, I = fun fu a w => ∃ (u15 : List Int) (u12 : Int) (u13 : Int) (u14 : Bool) (A18 : Option Addr) (p19 : Nat) (k16 : Chunk), loopN (fun s => impl_reader_several.s0 x0 x1 x2 x3 s.1 s.2.1 s.2.2.1 s.2.2.2) fu (u15, u12, u13, u14) = some o27 ∧ Kn [(0, (.pointer (some ⟨b0_, 0, none⟩))), (2, (.int .i64 x2)), (3, (.int .i64 x3)), (9, (.slice A18 u15.length p19)), (10, (.int .i64 x1)), (11, (.int .i64 u12))] 22 a ∧ Sat (blks [(1, [(b0_, .cells #[.slice A0_0 x0.list.length p0_0, .int .i64 x0.at_, .bool x0.bad] 183 (0, 0))])]) w0 w [(2, k0_0)] [(5, k16), (1, [(b0_, .cells #[.slice A0_0 x0.list.length p0_0, .int .i64 u13, .bool u14] 183 (0, 0))])] ∧ Own (Lay.int .i64) 3 A18 p19 u15 k16 := ⟨_, rfl⟩
   refine wp_loop_ghost I31 fu32 ?_ ?_
   ·rw [hI31]
    exact ⟨([] : List Int), 0, x0.at_, x0.bad, none, 0, _, h28, (hk.c 0 rfl (hk.c 2 rfl (hk.c 3 rfl (hk.c 9 rfl (hk.c 10 rfl (hk.c 11 rfl hk.k)))))), ((hs.addNil 1005).pick [(5, 1005), (1, 1)] rfl), Own.nil _ _⟩
   ·clear h28 hk hs
    intro fu32 a w hI0
    rw [hI31] at hI0
    obtain ⟨u15, u12, u13, u14, A18, p19, k16, hi, hk, hs, o17⟩ := hI0
    obtain ⟨x33, H, h34⟩ := loop_round hi
    try dsimp only at H
    unfold impl_reader_several.s0 at H
    apply wp_seq_k; intro K35 hK35
    apply wp_region_lit
    refine sv (.bool (decide (u12 < x1))) hk rfl rfl rfl fun a hk => ?_
    show wpList _ _ _ [] _ _
    refine wpList_nil ?_
    refine hK35 _ _ ?_
    apply wp_seq_k; intro K36 hK36
    rcases cond_some H with ⟨c37, H⟩ | ⟨c37, H⟩
    ·have hk := hk.lit 12 c37 rfl
     refine cnd_true hk rfl rfl ?_
     refine wp_skip ?_
     refine hK36 _ _ ?_
     apply wp_seq_k; intro K38 hK38
     refine wp_block ?_
     apply wp_region_lit
     refine sm _ rfl hk rfl rfl rfl fun a hk => ?_
     refine sm _ rfl hk rfl rfl rfl fun a hk => ?_
     refine sm _ rfl hk rfl rfl rfl fun a hk => ?_
     refine sm _ rfl hk rfl rfl rfl fun a hk => ?_
     obtain ⟨y39, h40, H⟩ := bind_some H
     refine sc rfl en141 hk rfl rfl rfl (impl_reader_next_t _ b0_ (⟨x0.list, u13, u14⟩ : S_reader) A0_0 p0_0 _ v0_0 (hs.hasD (k := 2) rfl) x2 x3 ((hs.hand [(1, 1)] rfl).dpick [(2, 2)] rfl) _ h40) ?_
     rintro _ w ⟨rfl, hG⟩ a hk
     have hs := hs.back [(1, 1)] rfl hG [1] rfl
     refine sbs (L := (Lay.int .i64)) (pv := [(0, (.int .i64 y39.1))]) (xs := [y39.1]) (ess := [[.int .i64 y39.1]]) 6 hs rfl hk rfl rfl rfl un31 (bs3_0 y39.1) (AllOwn.cons0 ⟨rfl, rfl⟩ AllOwn.nil) rfl rfl rfl fun b41 k42 w a hk o43 hs => ?_
     rcases ite_some H with ⟨c44, H⟩ | ⟨_, H⟩
     rotate_left
     ·cases H
     refine sap 5 (xs := u15) (ys := [y39.1]) (flat_flat : ((Lay.int .i64)).Flat) hs rfl o17 o43.view (hs.hasG (k := 6) rfl) rfl hk rfl rfl rfl rfl rfl rfl un31 mk3 rfl rfl rfl c44 fun A45 p46 k47 w a hk o48 hs => ?_
     refine sa _ rfl hk rfl rfl rfl fun a hk => ?_
     show wpList _ _ _ [] _ _
     refine wpList_nil ?_
     refine hK38 _ _ ?_
     apply wp_region_lit
     refine sv (.int .i64 (w64 (u12 + 1))) hk rfl rfl rfl fun a hk => ?_
     refine sm _ rfl hk rfl rfl rfl fun a hk => ?_
     show wpList _ _ _ [] _ _
     refine wpList_nil ?_
     obtain rfl := Option.some.inj H
     obtain ⟨m49, hmm49, h34⟩ := h34
     show ∃ n', n' < _ ∧ I31 n' _ _
     refine ⟨m49, hmm49, ?_⟩
     rw [hI31]
     exact ⟨(u15 ++ ([y39.1])), (w64 (u12 + 1)), y39.2.1, y39.2.2, A45, p46, _, h34, (hk.c 0 rfl (hk.c 2 rfl (hk.c 3 rfl (hk.c 9 rfl (hk.c 10 rfl (hk.c 11 rfl hk.k)))))), (hs.pick [(5, 5), (1, 1)] rfl), o48⟩
    ·have hk := hk.lit 12 c37 rfl
     refine cnd_false hk rfl rfl ?_
     refine wp_exit ?_
     obtain rfl := Option.some.inj H
     show R30 _ _
     rw [hR30]
     exact ⟨u15, u13, u14, A18, p19, _, h34.symm, (hk.c 0 rfl (hk.c 9 rfl hk.k)), (hs.pick [(5, 5), (1, 1)] rfl), o17⟩
  ·intro a w hR0
   rw [hR30] at hR0
   obtain ⟨u20, u25, u26, A23, p24, k21, rfl, hk, hs, o22⟩ := hR0
   have H := HL29
   try dsimp only at H
   refine hK3 _ _ ?_
   apply wp_seq_k; intro K50 hK50
   apply wp_region_lit
   refine sm _ rfl hk rfl rfl rfl fun a hk => ?_
   refine sa _ rfl hk rfl rfl rfl fun a hk => ?_
   show wpList _ _ _ [] _ _
   refine wpList_nil ?_
   refine hK50 _ _ ?_
   refine wp_ret ?_
   obtain rfl := Option.some.inj H
   exact fin hk _ [(.slice A23 u20.length p24)] rfl ⟨rfl, trivial⟩ ⟨A23, p24, _, rfl, o22, (hs.pick [(0, 5), (1, 1)] rfl).dnil⟩

noncomputable def impl_readState.s0 (y4 : S_reader) (y20 : Int × Int × Bool) (u32 : List S_Result) (u29 : Int) (u30 : Int) (u31 : Bool) : Option (((List S_Result) × Int × Int × Bool) ⊕ Ex ((List S_Result) × Int × Bool) (S_Enc × (List S_Result) × Bool)) :=
  (bif (decide (u29 < y20.1)) then ((impl_reader_next.f (⟨y4.list, u30, u31⟩ : S_reader) 0 19).bind fun y57 => ((impl_reader_next.f (⟨y4.list, y57.2.1, y57.2.2⟩ : S_reader) 0 32).bind fun y59 => ((impl_reader_several.f (⟨y4.list, y59.2.1, y59.2.2⟩ : S_reader) y59.1 0 999999).bind fun y61 => (if u32.length + ([(⟨y57.1, y61.1⟩ : S_Result)]).length ≤ 1073741824 then (some (.inl ((u32 ++ ([(⟨y57.1, y61.1⟩ : S_Result)])), (w64 (u29 + 1)), y61.2.1, y61.2.2))) else none)))) else (some (.inr (.out (u32, u30, u31)))))
noncomputable def impl_readState.f (x0 : ByteArray) : Option (S_Enc × (List S_Result) × Bool) :=
  ((impl_readerOf.f x0 140).bind fun y4 => ((impl_reader_several.f y4 12 0 7).bind fun y_r12_1_1 => ((impl_reader_blocks.f (⟨y4.list, y_r12_1_1.2.1, y_r12_1_1.2.2⟩ : S_reader) 12).bind fun y_r12_3_1 => (if 0 ≤ (15 : Int) ∧ (15 : Int) ≤ 1073741824 then ((impl_reader_several.f (⟨y4.list, y_r12_3_1.2.1, y_r12_3_1.2.2⟩ : S_reader) 11 0 9999).bind fun y_r15_1_1 => ((impl_reader_next.f (⟨y4.list, y_r15_1_1.2.1, y_r15_1_1.2.2⟩ : S_reader) 0 2).bind fun y20 => ((loopO (fun s => impl_readState.s0 y4 y20 s.1 s.2.1 s.2.2.1 s.2.2.2) (([] : List S_Result), 0, y20.2.1, y20.2.2)).bind fun o => match o with | .out (u37, u42, u43) => ((((impl_reader_ends.f (⟨y4.list, u42, u43⟩ : S_reader)).bind fun y84 => (bif (!y84.1) then (some true) else ((impl_EncOK.f (⟨y_r15_1_1.1, (⟨y_r12_1_1.1, y_r12_3_1.1, (List.replicate ((15 : Int)).toNat ([] : List S_Block))⟩ : S_Oram)⟩ : S_Enc)).bind fun y87 => (bif (!y87) then (some true) else ((impl_areResults.f u37).bind fun y90 => (some (!y90))))))) : Option (Bool)).bind fun u79 => (bif u79 then (some ((⟨([] : List Int), (⟨([] : List Int), ([] : List S_Block), ([] : List (List S_Block))⟩ : S_Oram)⟩ : S_Enc), ([] : List S_Result), false)) else (some ((⟨y_r15_1_1.1, (⟨y_r12_1_1.1, y_r12_3_1.1, (List.replicate ((15 : Int)).toNat ([] : List S_Block))⟩ : S_Oram)⟩ : S_Enc), u37, true)))) | .ret r => (some r)))) else none))))
set_option maxRecDepth 100000 in
set_option maxHeartbeats 0 in
theorem impl_readState_t (w0 : World) (x0 : ByteArray) (r : S_Enc × (List S_Result) × Bool) (H : impl_readState.f x0 = some r) :
    Calls Try.prog 94 #[.string x0] w0 (Ret (fun v w => ∃ (A0 : Option Addr) (p0 : Nat) (k0 : Chunk), ∃ (A1 : Option Addr) (p1 : Nat) (k1 : Chunk), ∃ (A2 : Option Addr) (p2 : Nat) (k2 : Chunk), ∃ (A3 : Option Addr) (p3 : Nat) (k3 : Chunk), ∃ (A4 : Option Addr) (p4 : Nat) (k4 : Chunk), v = .tuple #[.agg #[.slice A0 r.1.Keys.length p0, .slice A1 r.1.Oram.Pos.length p1, .slice A2 r.1.Oram.Stash.length p2, .slice A3 r.1.Oram.Buckets.length p3], .slice A4 r.2.1.length p4, .bool r.2.2] ∧ Own (Lay.int .i64) 3 A0 p0 r.1.Keys k0 ∧ Own (Lay.int .i64) 3 A1 p1 r.1.Oram.Pos k1 ∧ Own L_Block 81 A2 p2 r.1.Oram.Stash k2 ∧ Own (Lay.sl L_Block 81) 26 A3 p3 r.1.Oram.Buckets k3 ∧ Own L_impl_Result 105 A4 p4 r.2.1 k4 ∧ Sat [] w0 w [] [(0, k0), (1, k1), (2, k2), (3, k3), (4, k4)])) := by
  have hs : Sat [] w0 w0 [] [] := Sat.init w0 [] [] (by simp) (by simp) List.nodup_nil (by simp [blks])
  unfold impl_readState.f at H
  refine enter Try.func94 rfl Try.ntmps94 rfl fun a hk => ?_
  apply wp_seq_k; intro K1 hK1
  apply wp_region_lit
  refine salx 1 hs rfl hk rfl rfl ze53 rfl fun b2 w a hk hs => ?_
  refine sa _ rfl hk rfl rfl rfl fun a hk => ?_
  refine sa _ rfl hk rfl rfl rfl fun a hk => ?_
  show wpList _ _ _ [] _ _
  refine wpList_nil ?_
  refine hK1 _ _ ?_
  apply wp_seq_k; intro K3 hK3
  apply wp_region_lit
  refine sm _ rfl hk rfl rfl rfl fun a hk => ?_
  obtain ⟨y4, h5, H⟩ := bind_some H
  refine sc rfl en137 hk rfl rfl rfl (impl_readerOf_t _ x0 140 _ h5) ?_
  rintro _ w ⟨b6, A7, p8, k9, rfl, o10, hG⟩ a hk
  have hs := hs.call0k hG [2, 3] rfl
  refine sa _ rfl hk rfl rfl rfl fun a hk => ?_
  show wpList _ _ _ [] _ _
  refine wpList_nil ?_
  refine hK3 _ _ ?_
  apply wp_seq_k; intro K11 hK11
  obtain ⟨y_r12_1_1, h_r12_1_2, H⟩ := bind_some H
  obtain ⟨y_r12_3_1, h_r12_3_2, H⟩ := bind_some H
  rcases ite_some H with ⟨c_r12_4_1, H⟩ | ⟨_, H⟩
  rotate_left
  ·cases H
  obtain ⟨R13, hR13⟩ : ∃ R : Act → World → Prop, R = fun a w => ∃ (b_r12_6_1 : Nat) (A_r12_1_3 : Option Addr) (p_r12_1_4 : Nat) (A_r12_3_3 : Option Addr) (p_r12_3_4 : Nat) (b_r12_4_2 : Nat) (k_r12_1_5 : Chunk) (k_r12_3_5 : Chunk) (k_r12_4_3 : Chunk), Kn [(2, (.pointer (some ⟨b2, 0, none⟩))), (5, (.pointer (some ⟨b6, 0, none⟩))), (6, (.pointer (some ⟨b_r12_6_1, 0, none⟩)))] 54 a ∧ Sat [] w0 w [] [(1, [(b2, .cells #[.slice none 0 0, .slice none 0 0, .slice none 0 0, .slice none 0 0] 53 (0, 0))]), (2, [(b6, .cells #[.slice A7 y4.list.length p8, .int .i64 y_r12_3_1.2.1, .bool y_r12_3_1.2.2] 183 (0, 0))]), (3, k9), (104121, [(b_r12_6_1, .cells #[.slice A_r12_1_3 y_r12_1_1.1.length p_r12_1_4, .slice A_r12_3_3 y_r12_3_1.1.length p_r12_3_4, .slice (some ⟨b_r12_4_2, 0, none⟩) (((15 : Int)).toNat) (((15 : Int)).toNat)] 51 (0, 0))]), (104021, k_r12_1_5), (104061, k_r12_3_5), (104081, k_r12_4_3)] ∧ Own (Lay.int .i64) 3 A_r12_1_3 p_r12_1_4 y_r12_1_1.1 k_r12_1_5 ∧ Own L_Block 81 A_r12_3_3 p_r12_3_4 y_r12_3_1.1 k_r12_3_5 ∧ Own (Lay.sl L_Block 81) 26 (some ⟨b_r12_4_2, 0, none⟩) (((15 : Int)).toNat) (List.replicate ((15 : Int)).toNat ([] : List S_Block)) k_r12_4_3 ∧ (List.replicate ((15 : Int)).toNat ([] : List S_Block)).length = (((15 : Int)).toNat) := ⟨_, rfl⟩
  refine wp_cutq R13 ?_ ?_
  ·skip
   refine wp_region_tree (.q 0 (.q 2 (.alt 1 (.alt 3 (.alt 4 (.q 5 (.alt 6 (.last 7) .stop)) (.alt 6 (.alt 4 (.alt 5 (.last 7) .stop) .stop) .stop)) (.alt 4 (.alt 3 (.q 5 (.alt 6 (.last 7) .stop)) (.alt 6 (.alt 3 (.alt 5 (.last 7) .stop) .stop) .stop)) (.alt 6 (.alt 3 (.alt 4 (.alt 5 (.last 7) .stop) .stop) (.alt 4 (.alt 3 (.alt 5 (.last 7) .stop) .stop) .stop)) .stop))) (.alt 4 (.alt 1 (.alt 3 (.q 5 (.alt 6 (.last 7) .stop)) (.alt 6 (.alt 3 (.alt 5 (.last 7) .stop) .stop) .stop)) (.alt 6 (.alt 1 (.alt 3 (.alt 5 (.last 7) .stop) .stop) .stop) .stop)) (.alt 6 (.alt 1 (.alt 3 (.alt 4 (.alt 5 (.last 7) .stop) .stop) (.alt 4 (.alt 3 (.alt 5 (.last 7) .stop) .stop) .stop)) (.alt 4 (.alt 1 (.alt 3 (.alt 5 (.last 7) .stop) .stop) .stop) .stop)) .stop))))) mo (by kernel_rfl) (hs.pick [(3, 3), (1, 1)] rfl) fun _ => ?_
   have hs := hs.drew
   refine tqst (.pointer (some ⟨b6, 0, none⟩)) hk rfl rfl rfl rfl (fun w hs => sm _ rfl hk rfl rfl rfl fun a hk => qe hk) fun a hk => ?_
   refine tqst (.pointer (some ⟨b6, 0, none⟩)) hk rfl rfl rfl rfl (fun w hs => sm _ rfl hk rfl rfl rfl fun a hk => qe hk) fun a hk => ?_
   refine tsst hk rfl rfl (fun K_r12_1 hK_r12_1 w hF => ?_) ?_
   ·skip
    have hs := hs.f hF
    refine sc rfl en140 hk rfl rfl rfl (impl_reader_several_t _ b6 y4 A7 p8 _ o10.view (hs.hasG (k := 3) rfl) 12 0 7 ((hs.hand [(1, 2)] rfl).dpick [(2, 3)] rfl) _ h_r12_1_2) ?_
    rintro _ w ⟨A_r12_1_3, p_r12_1_4, k_r12_1_5, rfl, o_r12_1_6, hG⟩ a hk
    have hs := hs.back [(1, 2)] rfl hG [104021, 2] rfl
    refine se (hs.pick [(3, 3), (1, 1)] rfl) hk (hK_r12_1 _ _ ?_)
    refine tsst hk rfl rfl (fun K_r12_3 hK_r12_3 w hF => ?_) ?_
    ·skip
     have hs := hs.f hF
     refine sc rfl en138 hk rfl rfl rfl (impl_reader_blocks_t _ b6 (⟨y4.list, y_r12_1_1.2.1, y_r12_1_1.2.2⟩ : S_reader) A7 p8 _ o10.view (hs.hasG (k := 3) rfl) 12 ((hs.hand [(1, 2)] rfl).dpick [(2, 3)] rfl) _ h_r12_3_2) ?_
     rintro _ w ⟨A_r12_3_3, p_r12_3_4, k_r12_3_5, rfl, o_r12_3_6, hG⟩ a hk
     have hs := hs.back [(1, 2)] rfl hG [104061, 2] rfl
     refine se (hs.pick [(3, 3), (1, 1)] rfl) hk (hK_r12_3 _ _ ?_)
     refine tsst hk rfl rfl (fun K_r12_4 hK_r12_4 w hF => ?_) ?_
     ·skip
      have hs := hs.f hF
      refine smk 104081 (Lay.sl L_Block 81) hs rfl hk rfl rfl rfl rfl un49 mk26 lz26 rfl rfl c_r12_4_1.1 c_r12_4_1.2 fun b_r12_4_2 k_r12_4_3 w a hk o_r12_4_4 hs => ?_
      have lh_r12_4_5 : (List.replicate ((15 : Int)).toNat ([] : List S_Block)).length = ((15 : Int)).toNat := List.length_replicate
      refine se (hs.pick [(3, 3), (1, 1)] rfl) hk (hK_r12_4 _ _ ?_)
      refine tqst (.agg #[.slice A_r12_1_3 y_r12_1_1.1.length p_r12_1_4, .slice A_r12_3_3 y_r12_3_1.1.length p_r12_3_4, .slice (some ⟨b_r12_4_2, 0, none⟩) (((15 : Int)).toNat) (((15 : Int)).toNat)]) hk rfl rfl rfl rfl (fun w hs => sbd (pv := [(0, (.slice A_r12_1_3 y_r12_1_1.1.length p_r12_1_4)), (1, (.slice A_r12_3_3 y_r12_3_1.1.length p_r12_3_4)), (2, (.slice (some ⟨b_r12_4_2, 0, none⟩) (((15 : Int)).toNat) (((15 : Int)).toNat)))]) rfl hk rfl rfl rfl (bd51_3 A_r12_1_3 y_r12_1_1.1.length p_r12_1_4 A_r12_3_3 y_r12_3_1.1.length p_r12_3_4 (some ⟨b_r12_4_2, 0, none⟩) (((15 : Int)).toNat) (((15 : Int)).toNat)) fun a hk => qe hk) fun a hk => ?_
      refine tsst hk rfl rfl (fun K_r12_6 hK_r12_6 w hF => ?_) wt_stop
      have hs := hs.f hF
      refine salx 104121 hs rfl hk rfl rfl ze51 rfl fun b_r12_6_1 w a hk hs => ?_
      refine se (hs.pick [(3, 3), (1, 1)] rfl) hk (hK_r12_6 _ _ ?_)
      refine tlst hk rfl rfl fun K_r12_7 hK_r12_7 w hF => ?_
      have hs := hs.f hF
      refine ssw 104121 hs rfl rfl hk rfl rfl rfl rfl sz51 (by simp [Value.oneCell']) rfl fun w a hk hs => ?_
      refine se trivial hk (hK_r12_7 _ _ fun w hF => ?_)
      have hs := hs.f hF
      show R13 _ _
      rw [hR13]
      exact ⟨b_r12_6_1, A_r12_1_3, p_r12_1_4, A_r12_3_3, p_r12_3_4, b_r12_4_2, k_r12_1_5, k_r12_3_5, k_r12_4_3, (hk.c 2 rfl (hk.c 5 rfl (hk.c 6 rfl hk.k))), (hs.pick [(1, 1), (2, 2), (3, 3), (104121, 104121), (104021, 104021), (104061, 104061), (104081, 104081)] rfl), o_r12_1_6, o_r12_3_6, o_r12_4_4, lh_r12_4_5⟩
     refine tsst hk rfl rfl (fun K_r12_6 hK_r12_6 w hF => ?_) wt_stop
     have hs := hs.f hF
     refine salx 104121 hs rfl hk rfl rfl ze51 rfl fun b_r12_6_1 w a hk hs => ?_
     refine se (hs.pick [(3, 3), (1, 1)] rfl) hk (hK_r12_6 _ _ ?_)
     refine tsst hk rfl rfl (fun K_r12_4 hK_r12_4 w hF => ?_) wt_stop
     have hs := hs.f hF
     refine smk 104081 (Lay.sl L_Block 81) hs rfl hk rfl rfl rfl rfl un49 mk26 lz26 rfl rfl c_r12_4_1.1 c_r12_4_1.2 fun b_r12_4_2 k_r12_4_3 w a hk o_r12_4_4 hs => ?_
     have lh_r12_4_5 : (List.replicate ((15 : Int)).toNat ([] : List S_Block)).length = ((15 : Int)).toNat := List.length_replicate
     refine se (hs.pick [(3, 3), (1, 1)] rfl) hk (hK_r12_4 _ _ ?_)
     refine tsst hk rfl rfl (fun K_r12_5 hK_r12_5 w hF => ?_) wt_stop
     have hs := hs.f hF
     refine sbd (pv := [(0, (.slice A_r12_1_3 y_r12_1_1.1.length p_r12_1_4)), (1, (.slice A_r12_3_3 y_r12_3_1.1.length p_r12_3_4)), (2, (.slice (some ⟨b_r12_4_2, 0, none⟩) (((15 : Int)).toNat) (((15 : Int)).toNat)))]) rfl hk rfl rfl rfl (bd51_3 A_r12_1_3 y_r12_1_1.1.length p_r12_1_4 A_r12_3_3 y_r12_3_1.1.length p_r12_3_4 (some ⟨b_r12_4_2, 0, none⟩) (((15 : Int)).toNat) (((15 : Int)).toNat)) fun a hk => ?_
     refine se (hs.pick [(3, 3), (1, 1)] rfl) hk (hK_r12_5 _ _ ?_)
     refine tlst hk rfl rfl fun K_r12_7 hK_r12_7 w hF => ?_
     have hs := hs.f hF
     refine ssw 104121 hs rfl rfl hk rfl rfl rfl rfl sz51 (by simp [Value.oneCell']) rfl fun w a hk hs => ?_
     refine se trivial hk (hK_r12_7 _ _ fun w hF => ?_)
     have hs := hs.f hF
     show R13 _ _
     rw [hR13]
     exact ⟨b_r12_6_1, A_r12_1_3, p_r12_1_4, A_r12_3_3, p_r12_3_4, b_r12_4_2, k_r12_1_5, k_r12_3_5, k_r12_4_3, (hk.c 2 rfl (hk.c 5 rfl (hk.c 6 rfl hk.k))), (hs.pick [(1, 1), (2, 2), (3, 3), (104121, 104121), (104021, 104021), (104061, 104061), (104081, 104081)] rfl), o_r12_1_6, o_r12_3_6, o_r12_4_4, lh_r12_4_5⟩
    refine tsst hk rfl rfl (fun K_r12_4 hK_r12_4 w hF => ?_) ?_
    ·skip
     have hs := hs.f hF
     refine smk 104081 (Lay.sl L_Block 81) hs rfl hk rfl rfl rfl rfl un49 mk26 lz26 rfl rfl c_r12_4_1.1 c_r12_4_1.2 fun b_r12_4_2 k_r12_4_3 w a hk o_r12_4_4 hs => ?_
     have lh_r12_4_5 : (List.replicate ((15 : Int)).toNat ([] : List S_Block)).length = ((15 : Int)).toNat := List.length_replicate
     refine se (hs.pick [(3, 3), (1, 1)] rfl) hk (hK_r12_4 _ _ ?_)
     refine tsst hk rfl rfl (fun K_r12_3 hK_r12_3 w hF => ?_) ?_
     ·skip
      have hs := hs.f hF
      refine sc rfl en138 hk rfl rfl rfl (impl_reader_blocks_t _ b6 (⟨y4.list, y_r12_1_1.2.1, y_r12_1_1.2.2⟩ : S_reader) A7 p8 _ o10.view (hs.hasG (k := 3) rfl) 12 ((hs.hand [(1, 2)] rfl).dpick [(2, 3)] rfl) _ h_r12_3_2) ?_
      rintro _ w ⟨A_r12_3_3, p_r12_3_4, k_r12_3_5, rfl, o_r12_3_6, hG⟩ a hk
      have hs := hs.back [(1, 2)] rfl hG [104061, 2] rfl
      refine se (hs.pick [(3, 3), (1, 1)] rfl) hk (hK_r12_3 _ _ ?_)
      refine tqst (.agg #[.slice A_r12_1_3 y_r12_1_1.1.length p_r12_1_4, .slice A_r12_3_3 y_r12_3_1.1.length p_r12_3_4, .slice (some ⟨b_r12_4_2, 0, none⟩) (((15 : Int)).toNat) (((15 : Int)).toNat)]) hk rfl rfl rfl rfl (fun w hs => sbd (pv := [(0, (.slice A_r12_1_3 y_r12_1_1.1.length p_r12_1_4)), (1, (.slice A_r12_3_3 y_r12_3_1.1.length p_r12_3_4)), (2, (.slice (some ⟨b_r12_4_2, 0, none⟩) (((15 : Int)).toNat) (((15 : Int)).toNat)))]) rfl hk rfl rfl rfl (bd51_3 A_r12_1_3 y_r12_1_1.1.length p_r12_1_4 A_r12_3_3 y_r12_3_1.1.length p_r12_3_4 (some ⟨b_r12_4_2, 0, none⟩) (((15 : Int)).toNat) (((15 : Int)).toNat)) fun a hk => qe hk) fun a hk => ?_
      refine tsst hk rfl rfl (fun K_r12_6 hK_r12_6 w hF => ?_) wt_stop
      have hs := hs.f hF
      refine salx 104121 hs rfl hk rfl rfl ze51 rfl fun b_r12_6_1 w a hk hs => ?_
      refine se (hs.pick [(3, 3), (1, 1)] rfl) hk (hK_r12_6 _ _ ?_)
      refine tlst hk rfl rfl fun K_r12_7 hK_r12_7 w hF => ?_
      have hs := hs.f hF
      refine ssw 104121 hs rfl rfl hk rfl rfl rfl rfl sz51 (by simp [Value.oneCell']) rfl fun w a hk hs => ?_
      refine se trivial hk (hK_r12_7 _ _ fun w hF => ?_)
      have hs := hs.f hF
      show R13 _ _
      rw [hR13]
      exact ⟨b_r12_6_1, A_r12_1_3, p_r12_1_4, A_r12_3_3, p_r12_3_4, b_r12_4_2, k_r12_1_5, k_r12_3_5, k_r12_4_3, (hk.c 2 rfl (hk.c 5 rfl (hk.c 6 rfl hk.k))), (hs.pick [(1, 1), (2, 2), (3, 3), (104121, 104121), (104021, 104021), (104061, 104061), (104081, 104081)] rfl), o_r12_1_6, o_r12_3_6, o_r12_4_4, lh_r12_4_5⟩
     refine tsst hk rfl rfl (fun K_r12_6 hK_r12_6 w hF => ?_) wt_stop
     have hs := hs.f hF
     refine salx 104121 hs rfl hk rfl rfl ze51 rfl fun b_r12_6_1 w a hk hs => ?_
     refine se (hs.pick [(3, 3), (1, 1)] rfl) hk (hK_r12_6 _ _ ?_)
     refine tsst hk rfl rfl (fun K_r12_3 hK_r12_3 w hF => ?_) wt_stop
     have hs := hs.f hF
     refine sc rfl en138 hk rfl rfl rfl (impl_reader_blocks_t _ b6 (⟨y4.list, y_r12_1_1.2.1, y_r12_1_1.2.2⟩ : S_reader) A7 p8 _ o10.view (hs.hasG (k := 3) rfl) 12 ((hs.hand [(1, 2)] rfl).dpick [(2, 3)] rfl) _ h_r12_3_2) ?_
     rintro _ w ⟨A_r12_3_3, p_r12_3_4, k_r12_3_5, rfl, o_r12_3_6, hG⟩ a hk
     have hs := hs.back [(1, 2)] rfl hG [104061, 2] rfl
     refine se (hs.pick [(3, 3), (1, 1)] rfl) hk (hK_r12_3 _ _ ?_)
     refine tsst hk rfl rfl (fun K_r12_5 hK_r12_5 w hF => ?_) wt_stop
     have hs := hs.f hF
     refine sbd (pv := [(0, (.slice A_r12_1_3 y_r12_1_1.1.length p_r12_1_4)), (1, (.slice A_r12_3_3 y_r12_3_1.1.length p_r12_3_4)), (2, (.slice (some ⟨b_r12_4_2, 0, none⟩) (((15 : Int)).toNat) (((15 : Int)).toNat)))]) rfl hk rfl rfl rfl (bd51_3 A_r12_1_3 y_r12_1_1.1.length p_r12_1_4 A_r12_3_3 y_r12_3_1.1.length p_r12_3_4 (some ⟨b_r12_4_2, 0, none⟩) (((15 : Int)).toNat) (((15 : Int)).toNat)) fun a hk => ?_
     refine se (hs.pick [(3, 3), (1, 1)] rfl) hk (hK_r12_5 _ _ ?_)
     refine tlst hk rfl rfl fun K_r12_7 hK_r12_7 w hF => ?_
     have hs := hs.f hF
     refine ssw 104121 hs rfl rfl hk rfl rfl rfl rfl sz51 (by simp [Value.oneCell']) rfl fun w a hk hs => ?_
     refine se trivial hk (hK_r12_7 _ _ fun w hF => ?_)
     have hs := hs.f hF
     show R13 _ _
     rw [hR13]
     exact ⟨b_r12_6_1, A_r12_1_3, p_r12_1_4, A_r12_3_3, p_r12_3_4, b_r12_4_2, k_r12_1_5, k_r12_3_5, k_r12_4_3, (hk.c 2 rfl (hk.c 5 rfl (hk.c 6 rfl hk.k))), (hs.pick [(1, 1), (2, 2), (3, 3), (104121, 104121), (104021, 104021), (104061, 104061), (104081, 104081)] rfl), o_r12_1_6, o_r12_3_6, o_r12_4_4, lh_r12_4_5⟩
    refine tsst hk rfl rfl (fun K_r12_6 hK_r12_6 w hF => ?_) wt_stop
    have hs := hs.f hF
    refine salx 104121 hs rfl hk rfl rfl ze51 rfl fun b_r12_6_1 w a hk hs => ?_
    refine se (hs.pick [(3, 3), (1, 1)] rfl) hk (hK_r12_6 _ _ ?_)
    refine tsst hk rfl rfl (fun K_r12_3 hK_r12_3 w hF => ?_) ?_
    ·skip
     have hs := hs.f hF
     refine sc rfl en138 hk rfl rfl rfl (impl_reader_blocks_t _ b6 (⟨y4.list, y_r12_1_1.2.1, y_r12_1_1.2.2⟩ : S_reader) A7 p8 _ o10.view (hs.hasG (k := 3) rfl) 12 ((hs.hand [(1, 2)] rfl).dpick [(2, 3)] rfl) _ h_r12_3_2) ?_
     rintro _ w ⟨A_r12_3_3, p_r12_3_4, k_r12_3_5, rfl, o_r12_3_6, hG⟩ a hk
     have hs := hs.back [(1, 2)] rfl hG [104061, 2] rfl
     refine se (hs.pick [(3, 3), (1, 1)] rfl) hk (hK_r12_3 _ _ ?_)
     refine tsst hk rfl rfl (fun K_r12_4 hK_r12_4 w hF => ?_) wt_stop
     have hs := hs.f hF
     refine smk 104081 (Lay.sl L_Block 81) hs rfl hk rfl rfl rfl rfl un49 mk26 lz26 rfl rfl c_r12_4_1.1 c_r12_4_1.2 fun b_r12_4_2 k_r12_4_3 w a hk o_r12_4_4 hs => ?_
     have lh_r12_4_5 : (List.replicate ((15 : Int)).toNat ([] : List S_Block)).length = ((15 : Int)).toNat := List.length_replicate
     refine se (hs.pick [(3, 3), (1, 1)] rfl) hk (hK_r12_4 _ _ ?_)
     refine tsst hk rfl rfl (fun K_r12_5 hK_r12_5 w hF => ?_) wt_stop
     have hs := hs.f hF
     refine sbd (pv := [(0, (.slice A_r12_1_3 y_r12_1_1.1.length p_r12_1_4)), (1, (.slice A_r12_3_3 y_r12_3_1.1.length p_r12_3_4)), (2, (.slice (some ⟨b_r12_4_2, 0, none⟩) (((15 : Int)).toNat) (((15 : Int)).toNat)))]) rfl hk rfl rfl rfl (bd51_3 A_r12_1_3 y_r12_1_1.1.length p_r12_1_4 A_r12_3_3 y_r12_3_1.1.length p_r12_3_4 (some ⟨b_r12_4_2, 0, none⟩) (((15 : Int)).toNat) (((15 : Int)).toNat)) fun a hk => ?_
     refine se (hs.pick [(3, 3), (1, 1)] rfl) hk (hK_r12_5 _ _ ?_)
     refine tlst hk rfl rfl fun K_r12_7 hK_r12_7 w hF => ?_
     have hs := hs.f hF
     refine ssw 104121 hs rfl rfl hk rfl rfl rfl rfl sz51 (by simp [Value.oneCell']) rfl fun w a hk hs => ?_
     refine se trivial hk (hK_r12_7 _ _ fun w hF => ?_)
     have hs := hs.f hF
     show R13 _ _
     rw [hR13]
     exact ⟨b_r12_6_1, A_r12_1_3, p_r12_1_4, A_r12_3_3, p_r12_3_4, b_r12_4_2, k_r12_1_5, k_r12_3_5, k_r12_4_3, (hk.c 2 rfl (hk.c 5 rfl (hk.c 6 rfl hk.k))), (hs.pick [(1, 1), (2, 2), (3, 3), (104121, 104121), (104021, 104021), (104061, 104061), (104081, 104081)] rfl), o_r12_1_6, o_r12_3_6, o_r12_4_4, lh_r12_4_5⟩
    refine tsst hk rfl rfl (fun K_r12_4 hK_r12_4 w hF => ?_) wt_stop
    have hs := hs.f hF
    refine smk 104081 (Lay.sl L_Block 81) hs rfl hk rfl rfl rfl rfl un49 mk26 lz26 rfl rfl c_r12_4_1.1 c_r12_4_1.2 fun b_r12_4_2 k_r12_4_3 w a hk o_r12_4_4 hs => ?_
    have lh_r12_4_5 : (List.replicate ((15 : Int)).toNat ([] : List S_Block)).length = ((15 : Int)).toNat := List.length_replicate
    refine se (hs.pick [(3, 3), (1, 1)] rfl) hk (hK_r12_4 _ _ ?_)
    refine tsst hk rfl rfl (fun K_r12_3 hK_r12_3 w hF => ?_) wt_stop
    have hs := hs.f hF
    refine sc rfl en138 hk rfl rfl rfl (impl_reader_blocks_t _ b6 (⟨y4.list, y_r12_1_1.2.1, y_r12_1_1.2.2⟩ : S_reader) A7 p8 _ o10.view (hs.hasG (k := 3) rfl) 12 ((hs.hand [(1, 2)] rfl).dpick [(2, 3)] rfl) _ h_r12_3_2) ?_
    rintro _ w ⟨A_r12_3_3, p_r12_3_4, k_r12_3_5, rfl, o_r12_3_6, hG⟩ a hk
    have hs := hs.back [(1, 2)] rfl hG [104061, 2] rfl
    refine se (hs.pick [(3, 3), (1, 1)] rfl) hk (hK_r12_3 _ _ ?_)
    refine tsst hk rfl rfl (fun K_r12_5 hK_r12_5 w hF => ?_) wt_stop
    have hs := hs.f hF
    refine sbd (pv := [(0, (.slice A_r12_1_3 y_r12_1_1.1.length p_r12_1_4)), (1, (.slice A_r12_3_3 y_r12_3_1.1.length p_r12_3_4)), (2, (.slice (some ⟨b_r12_4_2, 0, none⟩) (((15 : Int)).toNat) (((15 : Int)).toNat)))]) rfl hk rfl rfl rfl (bd51_3 A_r12_1_3 y_r12_1_1.1.length p_r12_1_4 A_r12_3_3 y_r12_3_1.1.length p_r12_3_4 (some ⟨b_r12_4_2, 0, none⟩) (((15 : Int)).toNat) (((15 : Int)).toNat)) fun a hk => ?_
    refine se (hs.pick [(3, 3), (1, 1)] rfl) hk (hK_r12_5 _ _ ?_)
    refine tlst hk rfl rfl fun K_r12_7 hK_r12_7 w hF => ?_
    have hs := hs.f hF
    refine ssw 104121 hs rfl rfl hk rfl rfl rfl rfl sz51 (by simp [Value.oneCell']) rfl fun w a hk hs => ?_
    refine se trivial hk (hK_r12_7 _ _ fun w hF => ?_)
    have hs := hs.f hF
    show R13 _ _
    rw [hR13]
    exact ⟨b_r12_6_1, A_r12_1_3, p_r12_1_4, A_r12_3_3, p_r12_3_4, b_r12_4_2, k_r12_1_5, k_r12_3_5, k_r12_4_3, (hk.c 2 rfl (hk.c 5 rfl (hk.c 6 rfl hk.k))), (hs.pick [(1, 1), (2, 2), (3, 3), (104121, 104121), (104021, 104021), (104061, 104061), (104081, 104081)] rfl), o_r12_1_6, o_r12_3_6, o_r12_4_4, lh_r12_4_5⟩
   refine tsst hk rfl rfl (fun K_r12_4 hK_r12_4 w hF => ?_) ?_
   ·skip
    have hs := hs.f hF
    refine smk 104081 (Lay.sl L_Block 81) hs rfl hk rfl rfl rfl rfl un49 mk26 lz26 rfl rfl c_r12_4_1.1 c_r12_4_1.2 fun b_r12_4_2 k_r12_4_3 w a hk o_r12_4_4 hs => ?_
    have lh_r12_4_5 : (List.replicate ((15 : Int)).toNat ([] : List S_Block)).length = ((15 : Int)).toNat := List.length_replicate
    refine se (hs.pick [(3, 3), (1, 1)] rfl) hk (hK_r12_4 _ _ ?_)
    refine tsst hk rfl rfl (fun K_r12_1 hK_r12_1 w hF => ?_) ?_
    ·skip
     have hs := hs.f hF
     refine sc rfl en140 hk rfl rfl rfl (impl_reader_several_t _ b6 y4 A7 p8 _ o10.view (hs.hasG (k := 3) rfl) 12 0 7 ((hs.hand [(1, 2)] rfl).dpick [(2, 3)] rfl) _ h_r12_1_2) ?_
     rintro _ w ⟨A_r12_1_3, p_r12_1_4, k_r12_1_5, rfl, o_r12_1_6, hG⟩ a hk
     have hs := hs.back [(1, 2)] rfl hG [104021, 2] rfl
     refine se (hs.pick [(3, 3), (1, 1)] rfl) hk (hK_r12_1 _ _ ?_)
     refine tsst hk rfl rfl (fun K_r12_3 hK_r12_3 w hF => ?_) ?_
     ·skip
      have hs := hs.f hF
      refine sc rfl en138 hk rfl rfl rfl (impl_reader_blocks_t _ b6 (⟨y4.list, y_r12_1_1.2.1, y_r12_1_1.2.2⟩ : S_reader) A7 p8 _ o10.view (hs.hasG (k := 3) rfl) 12 ((hs.hand [(1, 2)] rfl).dpick [(2, 3)] rfl) _ h_r12_3_2) ?_
      rintro _ w ⟨A_r12_3_3, p_r12_3_4, k_r12_3_5, rfl, o_r12_3_6, hG⟩ a hk
      have hs := hs.back [(1, 2)] rfl hG [104061, 2] rfl
      refine se (hs.pick [(3, 3), (1, 1)] rfl) hk (hK_r12_3 _ _ ?_)
      refine tqst (.agg #[.slice A_r12_1_3 y_r12_1_1.1.length p_r12_1_4, .slice A_r12_3_3 y_r12_3_1.1.length p_r12_3_4, .slice (some ⟨b_r12_4_2, 0, none⟩) (((15 : Int)).toNat) (((15 : Int)).toNat)]) hk rfl rfl rfl rfl (fun w hs => sbd (pv := [(0, (.slice A_r12_1_3 y_r12_1_1.1.length p_r12_1_4)), (1, (.slice A_r12_3_3 y_r12_3_1.1.length p_r12_3_4)), (2, (.slice (some ⟨b_r12_4_2, 0, none⟩) (((15 : Int)).toNat) (((15 : Int)).toNat)))]) rfl hk rfl rfl rfl (bd51_3 A_r12_1_3 y_r12_1_1.1.length p_r12_1_4 A_r12_3_3 y_r12_3_1.1.length p_r12_3_4 (some ⟨b_r12_4_2, 0, none⟩) (((15 : Int)).toNat) (((15 : Int)).toNat)) fun a hk => qe hk) fun a hk => ?_
      refine tsst hk rfl rfl (fun K_r12_6 hK_r12_6 w hF => ?_) wt_stop
      have hs := hs.f hF
      refine salx 104121 hs rfl hk rfl rfl ze51 rfl fun b_r12_6_1 w a hk hs => ?_
      refine se (hs.pick [(3, 3), (1, 1)] rfl) hk (hK_r12_6 _ _ ?_)
      refine tlst hk rfl rfl fun K_r12_7 hK_r12_7 w hF => ?_
      have hs := hs.f hF
      refine ssw 104121 hs rfl rfl hk rfl rfl rfl rfl sz51 (by simp [Value.oneCell']) rfl fun w a hk hs => ?_
      refine se trivial hk (hK_r12_7 _ _ fun w hF => ?_)
      have hs := hs.f hF
      show R13 _ _
      rw [hR13]
      exact ⟨b_r12_6_1, A_r12_1_3, p_r12_1_4, A_r12_3_3, p_r12_3_4, b_r12_4_2, k_r12_1_5, k_r12_3_5, k_r12_4_3, (hk.c 2 rfl (hk.c 5 rfl (hk.c 6 rfl hk.k))), (hs.pick [(1, 1), (2, 2), (3, 3), (104121, 104121), (104021, 104021), (104061, 104061), (104081, 104081)] rfl), o_r12_1_6, o_r12_3_6, o_r12_4_4, lh_r12_4_5⟩
     refine tsst hk rfl rfl (fun K_r12_6 hK_r12_6 w hF => ?_) wt_stop
     have hs := hs.f hF
     refine salx 104121 hs rfl hk rfl rfl ze51 rfl fun b_r12_6_1 w a hk hs => ?_
     refine se (hs.pick [(3, 3), (1, 1)] rfl) hk (hK_r12_6 _ _ ?_)
     refine tsst hk rfl rfl (fun K_r12_3 hK_r12_3 w hF => ?_) wt_stop
     have hs := hs.f hF
     refine sc rfl en138 hk rfl rfl rfl (impl_reader_blocks_t _ b6 (⟨y4.list, y_r12_1_1.2.1, y_r12_1_1.2.2⟩ : S_reader) A7 p8 _ o10.view (hs.hasG (k := 3) rfl) 12 ((hs.hand [(1, 2)] rfl).dpick [(2, 3)] rfl) _ h_r12_3_2) ?_
     rintro _ w ⟨A_r12_3_3, p_r12_3_4, k_r12_3_5, rfl, o_r12_3_6, hG⟩ a hk
     have hs := hs.back [(1, 2)] rfl hG [104061, 2] rfl
     refine se (hs.pick [(3, 3), (1, 1)] rfl) hk (hK_r12_3 _ _ ?_)
     refine tsst hk rfl rfl (fun K_r12_5 hK_r12_5 w hF => ?_) wt_stop
     have hs := hs.f hF
     refine sbd (pv := [(0, (.slice A_r12_1_3 y_r12_1_1.1.length p_r12_1_4)), (1, (.slice A_r12_3_3 y_r12_3_1.1.length p_r12_3_4)), (2, (.slice (some ⟨b_r12_4_2, 0, none⟩) (((15 : Int)).toNat) (((15 : Int)).toNat)))]) rfl hk rfl rfl rfl (bd51_3 A_r12_1_3 y_r12_1_1.1.length p_r12_1_4 A_r12_3_3 y_r12_3_1.1.length p_r12_3_4 (some ⟨b_r12_4_2, 0, none⟩) (((15 : Int)).toNat) (((15 : Int)).toNat)) fun a hk => ?_
     refine se (hs.pick [(3, 3), (1, 1)] rfl) hk (hK_r12_5 _ _ ?_)
     refine tlst hk rfl rfl fun K_r12_7 hK_r12_7 w hF => ?_
     have hs := hs.f hF
     refine ssw 104121 hs rfl rfl hk rfl rfl rfl rfl sz51 (by simp [Value.oneCell']) rfl fun w a hk hs => ?_
     refine se trivial hk (hK_r12_7 _ _ fun w hF => ?_)
     have hs := hs.f hF
     show R13 _ _
     rw [hR13]
     exact ⟨b_r12_6_1, A_r12_1_3, p_r12_1_4, A_r12_3_3, p_r12_3_4, b_r12_4_2, k_r12_1_5, k_r12_3_5, k_r12_4_3, (hk.c 2 rfl (hk.c 5 rfl (hk.c 6 rfl hk.k))), (hs.pick [(1, 1), (2, 2), (3, 3), (104121, 104121), (104021, 104021), (104061, 104061), (104081, 104081)] rfl), o_r12_1_6, o_r12_3_6, o_r12_4_4, lh_r12_4_5⟩
    refine tsst hk rfl rfl (fun K_r12_6 hK_r12_6 w hF => ?_) wt_stop
    have hs := hs.f hF
    refine salx 104121 hs rfl hk rfl rfl ze51 rfl fun b_r12_6_1 w a hk hs => ?_
    refine se (hs.pick [(3, 3), (1, 1)] rfl) hk (hK_r12_6 _ _ ?_)
    refine tsst hk rfl rfl (fun K_r12_1 hK_r12_1 w hF => ?_) wt_stop
    have hs := hs.f hF
    refine sc rfl en140 hk rfl rfl rfl (impl_reader_several_t _ b6 y4 A7 p8 _ o10.view (hs.hasG (k := 3) rfl) 12 0 7 ((hs.hand [(1, 2)] rfl).dpick [(2, 3)] rfl) _ h_r12_1_2) ?_
    rintro _ w ⟨A_r12_1_3, p_r12_1_4, k_r12_1_5, rfl, o_r12_1_6, hG⟩ a hk
    have hs := hs.back [(1, 2)] rfl hG [104021, 2] rfl
    refine se (hs.pick [(3, 3), (1, 1)] rfl) hk (hK_r12_1 _ _ ?_)
    refine tsst hk rfl rfl (fun K_r12_3 hK_r12_3 w hF => ?_) wt_stop
    have hs := hs.f hF
    refine sc rfl en138 hk rfl rfl rfl (impl_reader_blocks_t _ b6 (⟨y4.list, y_r12_1_1.2.1, y_r12_1_1.2.2⟩ : S_reader) A7 p8 _ o10.view (hs.hasG (k := 3) rfl) 12 ((hs.hand [(1, 2)] rfl).dpick [(2, 3)] rfl) _ h_r12_3_2) ?_
    rintro _ w ⟨A_r12_3_3, p_r12_3_4, k_r12_3_5, rfl, o_r12_3_6, hG⟩ a hk
    have hs := hs.back [(1, 2)] rfl hG [104061, 2] rfl
    refine se (hs.pick [(3, 3), (1, 1)] rfl) hk (hK_r12_3 _ _ ?_)
    refine tsst hk rfl rfl (fun K_r12_5 hK_r12_5 w hF => ?_) wt_stop
    have hs := hs.f hF
    refine sbd (pv := [(0, (.slice A_r12_1_3 y_r12_1_1.1.length p_r12_1_4)), (1, (.slice A_r12_3_3 y_r12_3_1.1.length p_r12_3_4)), (2, (.slice (some ⟨b_r12_4_2, 0, none⟩) (((15 : Int)).toNat) (((15 : Int)).toNat)))]) rfl hk rfl rfl rfl (bd51_3 A_r12_1_3 y_r12_1_1.1.length p_r12_1_4 A_r12_3_3 y_r12_3_1.1.length p_r12_3_4 (some ⟨b_r12_4_2, 0, none⟩) (((15 : Int)).toNat) (((15 : Int)).toNat)) fun a hk => ?_
    refine se (hs.pick [(3, 3), (1, 1)] rfl) hk (hK_r12_5 _ _ ?_)
    refine tlst hk rfl rfl fun K_r12_7 hK_r12_7 w hF => ?_
    have hs := hs.f hF
    refine ssw 104121 hs rfl rfl hk rfl rfl rfl rfl sz51 (by simp [Value.oneCell']) rfl fun w a hk hs => ?_
    refine se trivial hk (hK_r12_7 _ _ fun w hF => ?_)
    have hs := hs.f hF
    show R13 _ _
    rw [hR13]
    exact ⟨b_r12_6_1, A_r12_1_3, p_r12_1_4, A_r12_3_3, p_r12_3_4, b_r12_4_2, k_r12_1_5, k_r12_3_5, k_r12_4_3, (hk.c 2 rfl (hk.c 5 rfl (hk.c 6 rfl hk.k))), (hs.pick [(1, 1), (2, 2), (3, 3), (104121, 104121), (104021, 104021), (104061, 104061), (104081, 104081)] rfl), o_r12_1_6, o_r12_3_6, o_r12_4_4, lh_r12_4_5⟩
   refine tsst hk rfl rfl (fun K_r12_6 hK_r12_6 w hF => ?_) wt_stop
   have hs := hs.f hF
   refine salx 104121 hs rfl hk rfl rfl ze51 rfl fun b_r12_6_1 w a hk hs => ?_
   refine se (hs.pick [(3, 3), (1, 1)] rfl) hk (hK_r12_6 _ _ ?_)
   refine tsst hk rfl rfl (fun K_r12_1 hK_r12_1 w hF => ?_) ?_
   ·skip
    have hs := hs.f hF
    refine sc rfl en140 hk rfl rfl rfl (impl_reader_several_t _ b6 y4 A7 p8 _ o10.view (hs.hasG (k := 3) rfl) 12 0 7 ((hs.hand [(1, 2)] rfl).dpick [(2, 3)] rfl) _ h_r12_1_2) ?_
    rintro _ w ⟨A_r12_1_3, p_r12_1_4, k_r12_1_5, rfl, o_r12_1_6, hG⟩ a hk
    have hs := hs.back [(1, 2)] rfl hG [104021, 2] rfl
    refine se (hs.pick [(3, 3), (1, 1)] rfl) hk (hK_r12_1 _ _ ?_)
    refine tsst hk rfl rfl (fun K_r12_3 hK_r12_3 w hF => ?_) ?_
    ·skip
     have hs := hs.f hF
     refine sc rfl en138 hk rfl rfl rfl (impl_reader_blocks_t _ b6 (⟨y4.list, y_r12_1_1.2.1, y_r12_1_1.2.2⟩ : S_reader) A7 p8 _ o10.view (hs.hasG (k := 3) rfl) 12 ((hs.hand [(1, 2)] rfl).dpick [(2, 3)] rfl) _ h_r12_3_2) ?_
     rintro _ w ⟨A_r12_3_3, p_r12_3_4, k_r12_3_5, rfl, o_r12_3_6, hG⟩ a hk
     have hs := hs.back [(1, 2)] rfl hG [104061, 2] rfl
     refine se (hs.pick [(3, 3), (1, 1)] rfl) hk (hK_r12_3 _ _ ?_)
     refine tsst hk rfl rfl (fun K_r12_4 hK_r12_4 w hF => ?_) wt_stop
     have hs := hs.f hF
     refine smk 104081 (Lay.sl L_Block 81) hs rfl hk rfl rfl rfl rfl un49 mk26 lz26 rfl rfl c_r12_4_1.1 c_r12_4_1.2 fun b_r12_4_2 k_r12_4_3 w a hk o_r12_4_4 hs => ?_
     have lh_r12_4_5 : (List.replicate ((15 : Int)).toNat ([] : List S_Block)).length = ((15 : Int)).toNat := List.length_replicate
     refine se (hs.pick [(3, 3), (1, 1)] rfl) hk (hK_r12_4 _ _ ?_)
     refine tsst hk rfl rfl (fun K_r12_5 hK_r12_5 w hF => ?_) wt_stop
     have hs := hs.f hF
     refine sbd (pv := [(0, (.slice A_r12_1_3 y_r12_1_1.1.length p_r12_1_4)), (1, (.slice A_r12_3_3 y_r12_3_1.1.length p_r12_3_4)), (2, (.slice (some ⟨b_r12_4_2, 0, none⟩) (((15 : Int)).toNat) (((15 : Int)).toNat)))]) rfl hk rfl rfl rfl (bd51_3 A_r12_1_3 y_r12_1_1.1.length p_r12_1_4 A_r12_3_3 y_r12_3_1.1.length p_r12_3_4 (some ⟨b_r12_4_2, 0, none⟩) (((15 : Int)).toNat) (((15 : Int)).toNat)) fun a hk => ?_
     refine se (hs.pick [(3, 3), (1, 1)] rfl) hk (hK_r12_5 _ _ ?_)
     refine tlst hk rfl rfl fun K_r12_7 hK_r12_7 w hF => ?_
     have hs := hs.f hF
     refine ssw 104121 hs rfl rfl hk rfl rfl rfl rfl sz51 (by simp [Value.oneCell']) rfl fun w a hk hs => ?_
     refine se trivial hk (hK_r12_7 _ _ fun w hF => ?_)
     have hs := hs.f hF
     show R13 _ _
     rw [hR13]
     exact ⟨b_r12_6_1, A_r12_1_3, p_r12_1_4, A_r12_3_3, p_r12_3_4, b_r12_4_2, k_r12_1_5, k_r12_3_5, k_r12_4_3, (hk.c 2 rfl (hk.c 5 rfl (hk.c 6 rfl hk.k))), (hs.pick [(1, 1), (2, 2), (3, 3), (104121, 104121), (104021, 104021), (104061, 104061), (104081, 104081)] rfl), o_r12_1_6, o_r12_3_6, o_r12_4_4, lh_r12_4_5⟩
    refine tsst hk rfl rfl (fun K_r12_4 hK_r12_4 w hF => ?_) wt_stop
    have hs := hs.f hF
    refine smk 104081 (Lay.sl L_Block 81) hs rfl hk rfl rfl rfl rfl un49 mk26 lz26 rfl rfl c_r12_4_1.1 c_r12_4_1.2 fun b_r12_4_2 k_r12_4_3 w a hk o_r12_4_4 hs => ?_
    have lh_r12_4_5 : (List.replicate ((15 : Int)).toNat ([] : List S_Block)).length = ((15 : Int)).toNat := List.length_replicate
    refine se (hs.pick [(3, 3), (1, 1)] rfl) hk (hK_r12_4 _ _ ?_)
    refine tsst hk rfl rfl (fun K_r12_3 hK_r12_3 w hF => ?_) wt_stop
    have hs := hs.f hF
    refine sc rfl en138 hk rfl rfl rfl (impl_reader_blocks_t _ b6 (⟨y4.list, y_r12_1_1.2.1, y_r12_1_1.2.2⟩ : S_reader) A7 p8 _ o10.view (hs.hasG (k := 3) rfl) 12 ((hs.hand [(1, 2)] rfl).dpick [(2, 3)] rfl) _ h_r12_3_2) ?_
    rintro _ w ⟨A_r12_3_3, p_r12_3_4, k_r12_3_5, rfl, o_r12_3_6, hG⟩ a hk
    have hs := hs.back [(1, 2)] rfl hG [104061, 2] rfl
    refine se (hs.pick [(3, 3), (1, 1)] rfl) hk (hK_r12_3 _ _ ?_)
    refine tsst hk rfl rfl (fun K_r12_5 hK_r12_5 w hF => ?_) wt_stop
    have hs := hs.f hF
    refine sbd (pv := [(0, (.slice A_r12_1_3 y_r12_1_1.1.length p_r12_1_4)), (1, (.slice A_r12_3_3 y_r12_3_1.1.length p_r12_3_4)), (2, (.slice (some ⟨b_r12_4_2, 0, none⟩) (((15 : Int)).toNat) (((15 : Int)).toNat)))]) rfl hk rfl rfl rfl (bd51_3 A_r12_1_3 y_r12_1_1.1.length p_r12_1_4 A_r12_3_3 y_r12_3_1.1.length p_r12_3_4 (some ⟨b_r12_4_2, 0, none⟩) (((15 : Int)).toNat) (((15 : Int)).toNat)) fun a hk => ?_
    refine se (hs.pick [(3, 3), (1, 1)] rfl) hk (hK_r12_5 _ _ ?_)
    refine tlst hk rfl rfl fun K_r12_7 hK_r12_7 w hF => ?_
    have hs := hs.f hF
    refine ssw 104121 hs rfl rfl hk rfl rfl rfl rfl sz51 (by simp [Value.oneCell']) rfl fun w a hk hs => ?_
    refine se trivial hk (hK_r12_7 _ _ fun w hF => ?_)
    have hs := hs.f hF
    show R13 _ _
    rw [hR13]
    exact ⟨b_r12_6_1, A_r12_1_3, p_r12_1_4, A_r12_3_3, p_r12_3_4, b_r12_4_2, k_r12_1_5, k_r12_3_5, k_r12_4_3, (hk.c 2 rfl (hk.c 5 rfl (hk.c 6 rfl hk.k))), (hs.pick [(1, 1), (2, 2), (3, 3), (104121, 104121), (104021, 104021), (104061, 104061), (104081, 104081)] rfl), o_r12_1_6, o_r12_3_6, o_r12_4_4, lh_r12_4_5⟩
   refine tsst hk rfl rfl (fun K_r12_4 hK_r12_4 w hF => ?_) wt_stop
   have hs := hs.f hF
   refine smk 104081 (Lay.sl L_Block 81) hs rfl hk rfl rfl rfl rfl un49 mk26 lz26 rfl rfl c_r12_4_1.1 c_r12_4_1.2 fun b_r12_4_2 k_r12_4_3 w a hk o_r12_4_4 hs => ?_
   have lh_r12_4_5 : (List.replicate ((15 : Int)).toNat ([] : List S_Block)).length = ((15 : Int)).toNat := List.length_replicate
   refine se (hs.pick [(3, 3), (1, 1)] rfl) hk (hK_r12_4 _ _ ?_)
   refine tsst hk rfl rfl (fun K_r12_1 hK_r12_1 w hF => ?_) wt_stop
   have hs := hs.f hF
   refine sc rfl en140 hk rfl rfl rfl (impl_reader_several_t _ b6 y4 A7 p8 _ o10.view (hs.hasG (k := 3) rfl) 12 0 7 ((hs.hand [(1, 2)] rfl).dpick [(2, 3)] rfl) _ h_r12_1_2) ?_
   rintro _ w ⟨A_r12_1_3, p_r12_1_4, k_r12_1_5, rfl, o_r12_1_6, hG⟩ a hk
   have hs := hs.back [(1, 2)] rfl hG [104021, 2] rfl
   refine se (hs.pick [(3, 3), (1, 1)] rfl) hk (hK_r12_1 _ _ ?_)
   refine tsst hk rfl rfl (fun K_r12_3 hK_r12_3 w hF => ?_) wt_stop
   have hs := hs.f hF
   refine sc rfl en138 hk rfl rfl rfl (impl_reader_blocks_t _ b6 (⟨y4.list, y_r12_1_1.2.1, y_r12_1_1.2.2⟩ : S_reader) A7 p8 _ o10.view (hs.hasG (k := 3) rfl) 12 ((hs.hand [(1, 2)] rfl).dpick [(2, 3)] rfl) _ h_r12_3_2) ?_
   rintro _ w ⟨A_r12_3_3, p_r12_3_4, k_r12_3_5, rfl, o_r12_3_6, hG⟩ a hk
   have hs := hs.back [(1, 2)] rfl hG [104061, 2] rfl
   refine se (hs.pick [(3, 3), (1, 1)] rfl) hk (hK_r12_3 _ _ ?_)
   refine tsst hk rfl rfl (fun K_r12_5 hK_r12_5 w hF => ?_) wt_stop
   have hs := hs.f hF
   refine sbd (pv := [(0, (.slice A_r12_1_3 y_r12_1_1.1.length p_r12_1_4)), (1, (.slice A_r12_3_3 y_r12_3_1.1.length p_r12_3_4)), (2, (.slice (some ⟨b_r12_4_2, 0, none⟩) (((15 : Int)).toNat) (((15 : Int)).toNat)))]) rfl hk rfl rfl rfl (bd51_3 A_r12_1_3 y_r12_1_1.1.length p_r12_1_4 A_r12_3_3 y_r12_3_1.1.length p_r12_3_4 (some ⟨b_r12_4_2, 0, none⟩) (((15 : Int)).toNat) (((15 : Int)).toNat)) fun a hk => ?_
   refine se (hs.pick [(3, 3), (1, 1)] rfl) hk (hK_r12_5 _ _ ?_)
   refine tlst hk rfl rfl fun K_r12_7 hK_r12_7 w hF => ?_
   have hs := hs.f hF
   refine ssw 104121 hs rfl rfl hk rfl rfl rfl rfl sz51 (by simp [Value.oneCell']) rfl fun w a hk hs => ?_
   refine se trivial hk (hK_r12_7 _ _ fun w hF => ?_)
   have hs := hs.f hF
   show R13 _ _
   rw [hR13]
   exact ⟨b_r12_6_1, A_r12_1_3, p_r12_1_4, A_r12_3_3, p_r12_3_4, b_r12_4_2, k_r12_1_5, k_r12_3_5, k_r12_4_3, (hk.c 2 rfl (hk.c 5 rfl (hk.c 6 rfl hk.k))), (hs.pick [(1, 1), (2, 2), (3, 3), (104121, 104121), (104021, 104021), (104061, 104061), (104081, 104081)] rfl), o_r12_1_6, o_r12_3_6, o_r12_4_4, lh_r12_4_5⟩
  ·intro a w hR0
   rw [hR13] at hR0
   obtain ⟨b_r12_6_1, A_r12_1_3, p_r12_1_4, A_r12_3_3, p_r12_3_4, b_r12_4_2, k_r12_1_5, k_r12_3_5, k_r12_4_3, hk, hs, o_r12_1_6, o_r12_3_6, o_r12_4_4, lh_r12_4_5⟩ := hR0
   refine hK11 _ _ ?_
   apply wp_seq_k; intro K14 hK14
   obtain ⟨y_r15_1_1, h_r15_1_2, H⟩ := bind_some H
   obtain ⟨R16, hR16⟩ : ∃ R : Act → World → Prop, R = fun a w => ∃ (b_r15_4_1 : Nat) (A_r15_1_3 : Option Addr) (p_r15_1_4 : Nat) (k_r15_1_5 : Chunk), Kn [(2, (.pointer (some ⟨b2, 0, none⟩))), (5, (.pointer (some ⟨b6, 0, none⟩))), (7, (.pointer (some ⟨b_r15_4_1, 0, none⟩)))] 54 a ∧ Sat [] w0 w [] [(1, [(b2, .cells #[.slice none 0 0, .slice none 0 0, .slice none 0 0, .slice none 0 0] 53 (0, 0))]), (2, [(b6, .cells #[.slice A7 y4.list.length p8, .int .i64 y_r15_1_1.2.1, .bool y_r15_1_1.2.2] 183 (0, 0))]), (3, k9), (105081, [(b_r15_4_1, .cells #[.slice A_r15_1_3 y_r15_1_1.1.length p_r15_1_4, .slice A_r12_1_3 y_r12_1_1.1.length p_r12_1_4, .slice A_r12_3_3 y_r12_3_1.1.length p_r12_3_4, .slice (some ⟨b_r12_4_2, 0, none⟩) (((15 : Int)).toNat) (((15 : Int)).toNat)] 53 (0, 0))]), (105021, k_r15_1_5), (104021, k_r12_1_5), (104061, k_r12_3_5), (104081, k_r12_4_3)] ∧ Own (Lay.int .i64) 3 A_r15_1_3 p_r15_1_4 y_r15_1_1.1 k_r15_1_5 := ⟨_, rfl⟩
   refine wp_cutq R16 ?_ ?_
   ·skip
    refine wp_region_tree (.q 0 (.q 2 (.alt 1 (.q 3 (.alt 4 (.last 5) .stop)) (.alt 4 (.alt 1 (.alt 3 (.last 5) .stop) .stop) .stop)))) mo (by kernel_rfl) (hs.pick [(1, 1), (3, 3), (104121, 104121), (104021, 104021), (104061, 104061), (104081, 104081)] rfl) fun _ => ?_
    have hs := hs.drew
    refine tqst (.pointer (some ⟨b6, 0, none⟩)) hk rfl rfl rfl rfl (fun w hs => sm _ rfl hk rfl rfl rfl fun a hk => qe hk) fun a hk => ?_
    refine tqst (.agg #[.slice A_r12_1_3 y_r12_1_1.1.length p_r12_1_4, .slice A_r12_3_3 y_r12_3_1.1.length p_r12_3_4, .slice (some ⟨b_r12_4_2, 0, none⟩) (((15 : Int)).toNat) (((15 : Int)).toNat)]) hk rfl rfl rfl rfl (fun w hs => sln [.slice A_r12_1_3 y_r12_1_1.1.length p_r12_1_4, .slice A_r12_3_3 y_r12_3_1.1.length p_r12_3_4, .slice (some ⟨b_r12_4_2, 0, none⟩) (((15 : Int)).toNat) (((15 : Int)).toNat)] rfl hk rfl rfl rfl ag51 sz51 (box_cells hs (k := 104121) rfl) fun a hk => qe hk) fun a hk => ?_
    refine tsst hk rfl rfl (fun K_r15_1 hK_r15_1 w hF => ?_) ?_
    ·skip
     have hs := hs.f hF
     refine sc rfl en140 hk rfl rfl rfl (impl_reader_several_t _ b6 (⟨y4.list, y_r12_3_1.2.1, y_r12_3_1.2.2⟩ : S_reader) A7 p8 _ o10.view (hs.hasG (k := 3) rfl) 11 0 9999 ((hs.hand [(1, 2)] rfl).dpick [(2, 3)] rfl) _ h_r15_1_2) ?_
     rintro _ w ⟨A_r15_1_3, p_r15_1_4, k_r15_1_5, rfl, o_r15_1_6, hG⟩ a hk
     have hs := hs.back [(1, 2)] rfl hG [105021, 2] rfl
     refine se (hs.pick [(1, 1), (3, 3), (104121, 104121), (104021, 104021), (104061, 104061), (104081, 104081)] rfl) hk (hK_r15_1 _ _ ?_)
     refine tqst (.agg #[.slice A_r15_1_3 y_r15_1_1.1.length p_r15_1_4, .slice A_r12_1_3 y_r12_1_1.1.length p_r12_1_4, .slice A_r12_3_3 y_r12_3_1.1.length p_r12_3_4, .slice (some ⟨b_r12_4_2, 0, none⟩) (((15 : Int)).toNat) (((15 : Int)).toNat)]) hk rfl rfl rfl rfl (fun w hs => sbd (pv := [(0, (.slice A_r15_1_3 y_r15_1_1.1.length p_r15_1_4)), (1, (.agg #[.slice A_r12_1_3 y_r12_1_1.1.length p_r12_1_4, .slice A_r12_3_3 y_r12_3_1.1.length p_r12_3_4, .slice (some ⟨b_r12_4_2, 0, none⟩) (((15 : Int)).toNat) (((15 : Int)).toNat)]))]) rfl hk rfl rfl rfl (bd53_10 A_r15_1_3 y_r15_1_1.1.length p_r15_1_4 A_r12_1_3 y_r12_1_1.1.length p_r12_1_4 A_r12_3_3 y_r12_3_1.1.length p_r12_3_4 (some ⟨b_r12_4_2, 0, none⟩) (((15 : Int)).toNat) (((15 : Int)).toNat)) fun a hk => qe hk) fun a hk => ?_
     refine tsst hk rfl rfl (fun K_r15_4 hK_r15_4 w hF => ?_) wt_stop
     have hs := hs.f hF
     refine salx 105081 hs rfl hk rfl rfl ze53 rfl fun b_r15_4_1 w a hk hs => ?_
     refine se (hs.pick [(1, 1), (3, 3), (104121, 104121), (104021, 104021), (104061, 104061), (104081, 104081)] rfl) hk (hK_r15_4 _ _ ?_)
     refine tlst hk rfl rfl fun K_r15_5 hK_r15_5 w hF => ?_
     have hs := hs.f hF
     refine ssw 105081 hs rfl rfl hk rfl rfl rfl rfl sz53 (by simp [Value.oneCell']) rfl fun w a hk hs => ?_
     refine se trivial hk (hK_r15_5 _ _ fun w hF => ?_)
     have hs := hs.f hF
     show R16 _ _
     rw [hR16]
     exact ⟨b_r15_4_1, A_r15_1_3, p_r15_1_4, k_r15_1_5, (hk.c 2 rfl (hk.c 5 rfl (hk.c 7 rfl hk.k))), (hs.pick [(1, 1), (2, 2), (3, 3), (105081, 105081), (105021, 105021), (104021, 104021), (104061, 104061), (104081, 104081)] rfl), o_r15_1_6⟩
    refine tsst hk rfl rfl (fun K_r15_4 hK_r15_4 w hF => ?_) wt_stop
    have hs := hs.f hF
    refine salx 105081 hs rfl hk rfl rfl ze53 rfl fun b_r15_4_1 w a hk hs => ?_
    refine se (hs.pick [(1, 1), (3, 3), (104121, 104121), (104021, 104021), (104061, 104061), (104081, 104081)] rfl) hk (hK_r15_4 _ _ ?_)
    refine tsst hk rfl rfl (fun K_r15_1 hK_r15_1 w hF => ?_) wt_stop
    have hs := hs.f hF
    refine sc rfl en140 hk rfl rfl rfl (impl_reader_several_t _ b6 (⟨y4.list, y_r12_3_1.2.1, y_r12_3_1.2.2⟩ : S_reader) A7 p8 _ o10.view (hs.hasG (k := 3) rfl) 11 0 9999 ((hs.hand [(1, 2)] rfl).dpick [(2, 3)] rfl) _ h_r15_1_2) ?_
    rintro _ w ⟨A_r15_1_3, p_r15_1_4, k_r15_1_5, rfl, o_r15_1_6, hG⟩ a hk
    have hs := hs.back [(1, 2)] rfl hG [105021, 2] rfl
    refine se (hs.pick [(1, 1), (3, 3), (104121, 104121), (104021, 104021), (104061, 104061), (104081, 104081)] rfl) hk (hK_r15_1 _ _ ?_)
    refine tsst hk rfl rfl (fun K_r15_3 hK_r15_3 w hF => ?_) wt_stop
    have hs := hs.f hF
    refine sbd (pv := [(0, (.slice A_r15_1_3 y_r15_1_1.1.length p_r15_1_4)), (1, (.agg #[.slice A_r12_1_3 y_r12_1_1.1.length p_r12_1_4, .slice A_r12_3_3 y_r12_3_1.1.length p_r12_3_4, .slice (some ⟨b_r12_4_2, 0, none⟩) (((15 : Int)).toNat) (((15 : Int)).toNat)]))]) rfl hk rfl rfl rfl (bd53_10 A_r15_1_3 y_r15_1_1.1.length p_r15_1_4 A_r12_1_3 y_r12_1_1.1.length p_r12_1_4 A_r12_3_3 y_r12_3_1.1.length p_r12_3_4 (some ⟨b_r12_4_2, 0, none⟩) (((15 : Int)).toNat) (((15 : Int)).toNat)) fun a hk => ?_
    refine se (hs.pick [(1, 1), (3, 3), (104121, 104121), (104021, 104021), (104061, 104061), (104081, 104081)] rfl) hk (hK_r15_3 _ _ ?_)
    refine tlst hk rfl rfl fun K_r15_5 hK_r15_5 w hF => ?_
    have hs := hs.f hF
    refine ssw 105081 hs rfl rfl hk rfl rfl rfl rfl sz53 (by simp [Value.oneCell']) rfl fun w a hk hs => ?_
    refine se trivial hk (hK_r15_5 _ _ fun w hF => ?_)
    have hs := hs.f hF
    show R16 _ _
    rw [hR16]
    exact ⟨b_r15_4_1, A_r15_1_3, p_r15_1_4, k_r15_1_5, (hk.c 2 rfl (hk.c 5 rfl (hk.c 7 rfl hk.k))), (hs.pick [(1, 1), (2, 2), (3, 3), (105081, 105081), (105021, 105021), (104021, 104021), (104061, 104061), (104081, 104081)] rfl), o_r15_1_6⟩
   ·intro a w hR0
    rw [hR16] at hR0
    obtain ⟨b_r15_4_1, A_r15_1_3, p_r15_1_4, k_r15_1_5, hk, hs, o_r15_1_6⟩ := hR0
    refine hK14 _ _ ?_
    apply wp_seq_k; intro K17 hK17
    apply wp_region_lit
    refine sa _ rfl hk rfl rfl rfl fun a hk => ?_
    show wpList _ _ _ [] _ _
    refine wpList_nil ?_
    refine hK17 _ _ ?_
    apply wp_seq_k; intro K18 hK18
    apply wp_seq_k; intro K19 hK19
    apply wp_region_lit
    refine sm _ rfl hk rfl rfl rfl fun a hk => ?_
    obtain ⟨y20, h21, H⟩ := bind_some H
    refine sc rfl en141 hk rfl rfl rfl (impl_reader_next_t _ b6 (⟨y4.list, y_r15_1_1.2.1, y_r15_1_1.2.2⟩ : S_reader) A7 p8 _ o10.view (hs.hasG (k := 3) rfl) 0 2 ((hs.hand [(1, 2)] rfl).dpick [(2, 3)] rfl) _ h21) ?_
    rintro _ w ⟨rfl, hG⟩ a hk
    have hs := hs.back [(1, 2)] rfl hG [2] rfl
    refine sm _ rfl hk rfl rfl rfl fun a hk => ?_
    show wpList _ _ _ [] _ _
    refine wpList_nil ?_
    refine hK19 _ _ ?_
    obtain ⟨o44, h45, HL46⟩ := bind_some H
    clear H
    obtain ⟨R47, hR47⟩ : ∃ R : Act → World → Prop, R = fun a w => ∃ (u37 : List S_Result) (u42 : Int) (u43 : Bool) (A40 : Option Addr) (p41 : Nat) (k38 : Chunk), o44 = .out (u37, u42, u43) ∧ Kn [(2, (.pointer (some ⟨b2, 0, none⟩))), (5, (.pointer (some ⟨b6, 0, none⟩))), (7, (.pointer (some ⟨b_r15_4_1, 0, none⟩))), (8, (.slice A40 u37.length p41))] 54 a ∧ Sat [] w0 w [] [(8, k38), (1, [(b2, .cells #[.slice none 0 0, .slice none 0 0, .slice none 0 0, .slice none 0 0] 53 (0, 0))]), (2, [(b6, .cells #[.slice A7 y4.list.length p8, .int .i64 u42, .bool u43] 183 (0, 0))]), (3, k9), (105081, [(b_r15_4_1, .cells #[.slice A_r15_1_3 y_r15_1_1.1.length p_r15_1_4, .slice A_r12_1_3 y_r12_1_1.1.length p_r12_1_4, .slice A_r12_3_3 y_r12_3_1.1.length p_r12_3_4, .slice (some ⟨b_r12_4_2, 0, none⟩) (((15 : Int)).toNat) (((15 : Int)).toNat)] 53 (0, 0))]), (105021, k_r15_1_5), (104021, k_r12_1_5), (104061, k_r12_3_5), (104081, k_r12_4_3)] ∧ Own L_impl_Result 105 A40 p41 u37 k38 := ⟨_, rfl⟩
    refine wp_cutq R47 ?_ ?_
    ·refine wp_block ?_
     obtain ⟨fu49, h45⟩ := loopO_some h45
     obtain ⟨I48, hI48⟩ : ∃ I : Nat → Act → World → Prop, I = fun fu a w => ∃ (u32 : List S_Result) (u29 : Int) (u30 : Int) (u31 : Bool) (A35 : Option Addr) (p36 : Nat) (k33 : Chunk), loopN (fun s => impl_readState.s0 y4 y20 s.1 s.2.1 s.2.2.1 s.2.2.2) fu (u32, u29, u30, u31) = some o44 ∧ Kn [(2, (.pointer (some ⟨b2, 0, none⟩))), (5, (.pointer (some ⟨b6, 0, none⟩))), (7, (.pointer (some ⟨b_r15_4_1, 0, none⟩))), (8, (.slice A35 u32.length p36)), (23, (.int .i64 y20.1)), (24, (.int .i64 u29))] 54 a ∧ Sat [] w0 w [] [(8, k33), (1, [(b2, .cells #[.slice none 0 0, .slice none 0 0, .slice none 0 0, .slice none 0 0] 53 (0, 0))]), (2, [(b6, .cells #[.slice A7 y4.list.length p8, .int .i64 u30, .bool u31] 183 (0, 0))]), (3, k9), (105081, [(b_r15_4_1, .cells #[.slice A_r15_1_3 y_r15_1_1.1.length p_r15_1_4, .slice A_r12_1_3 y_r12_1_1.1.length p_r12_1_4, .slice A_r12_3_3 y_r12_3_1.1.length p_r12_3_4, .slice (some ⟨b_r12_4_2, 0, none⟩) (((15 : Int)).toNat) (((15 : Int)).toNat)] 53 (0, 0))]), (105021, k_r15_1_5), (104021, k_r12_1_5), (104061, k_r12_3_5), (104081, k_r12_4_3)] ∧ Own L_impl_Result 105 A35 p36 u32 k33 := ⟨_, rfl⟩
     refine wp_loop_ghost I48 fu49 ?_ ?_
     ·rw [hI48]
      exact ⟨([] : List S_Result), 0, y20.2.1, y20.2.2, none, 0, _, h45, (hk.c 2 rfl (hk.c 5 rfl (hk.c 7 rfl (hk.c 8 rfl (hk.c 23 rfl (hk.c 24 rfl hk.k)))))), ((hs.addNil 1008).pick [(8, 1008), (1, 1), (2, 2), (3, 3), (105081, 105081), (105021, 105021), (104021, 104021), (104061, 104061), (104081, 104081)] rfl), Own.nil _ _⟩
     ·clear h45 hk hs
      intro fu49 a w hI0
      rw [hI48] at hI0
      obtain ⟨u32, u29, u30, u31, A35, p36, k33, hi, hk, hs, o34⟩ := hI0
      obtain ⟨x50, H, h51⟩ := loop_round hi
      try dsimp only at H
      unfold impl_readState.s0 at H
      apply wp_seq_k; intro K52 hK52
      apply wp_region_lit
      refine sv (.bool (decide (u29 < y20.1))) hk rfl rfl rfl fun a hk => ?_
      show wpList _ _ _ [] _ _
      refine wpList_nil ?_
      refine hK52 _ _ ?_
      apply wp_seq_k; intro K53 hK53
      rcases cond_some H with ⟨c54, H⟩ | ⟨c54, H⟩
      ·have hk := hk.lit 25 c54 rfl
       refine cnd_true hk rfl rfl ?_
       refine wp_skip ?_
       refine hK53 _ _ ?_
       apply wp_seq_k; intro K55 hK55
       refine wp_block ?_
       apply wp_seq_k; intro K56 hK56
       apply wp_region_lit
       refine sm _ rfl hk rfl rfl rfl fun a hk => ?_
       obtain ⟨y57, h58, H⟩ := bind_some H
       refine sc rfl en141 hk rfl rfl rfl (impl_reader_next_t _ b6 (⟨y4.list, u30, u31⟩ : S_reader) A7 p8 _ o10.view (hs.hasG (k := 3) rfl) 0 19 ((hs.hand [(1, 2)] rfl).dpick [(2, 3)] rfl) _ h58) ?_
       rintro _ w ⟨rfl, hG⟩ a hk
       have hs := hs.back [(1, 2)] rfl hG [2] rfl
       refine sa _ rfl hk rfl rfl rfl fun a hk => ?_
       show wpList _ _ _ [] _ _
       refine wpList_nil ?_
       refine hK56 _ _ ?_
       apply wp_region_lit
       refine sm _ rfl hk rfl rfl rfl fun a hk => ?_
       refine sm _ rfl hk rfl rfl rfl fun a hk => ?_
       refine sm _ rfl hk rfl rfl rfl fun a hk => ?_
       refine sm _ rfl hk rfl rfl rfl fun a hk => ?_
       obtain ⟨y59, h60, H⟩ := bind_some H
       refine sc rfl en141 hk rfl rfl rfl (impl_reader_next_t _ b6 (⟨y4.list, y57.2.1, y57.2.2⟩ : S_reader) A7 p8 _ o10.view (hs.hasG (k := 3) rfl) 0 32 ((hs.hand [(1, 2)] rfl).dpick [(2, 3)] rfl) _ h60) ?_
       rintro _ w ⟨rfl, hG⟩ a hk
       have hs := hs.back [(1, 2)] rfl hG [2] rfl
       obtain ⟨y61, h62, H⟩ := bind_some H
       refine sc rfl en140 hk rfl rfl rfl (impl_reader_several_t _ b6 (⟨y4.list, y59.2.1, y59.2.2⟩ : S_reader) A7 p8 _ o10.view (hs.hasG (k := 3) rfl) y59.1 0 999999 ((hs.hand [(1, 2)] rfl).dpick [(2, 3)] rfl) _ h62) ?_
       rintro _ w ⟨A63, p64, k65, rfl, o66, hG⟩ a hk
       have hs := hs.back [(1, 2)] rfl hG [9, 2] rfl
       refine sbd (pv := [(0, (.int .i64 y57.1)), (1, (.slice A63 y61.1.length p64))]) rfl hk rfl rfl rfl (bd105_7 y57.1 A63 y61.1.length p64) fun a hk => ?_
       refine sbs1 (L := L_impl_Result) (pv := [(0, (.agg #[.int .i64 y57.1, .slice A63 y61.1.length p64]))]) (xs := [(⟨y57.1, y61.1⟩ : S_Result)]) (ess := [[.int .i64 y57.1, .slice A63 y61.1.length p64]]) 10 9 hs rfl rfl hk rfl rfl rfl un55 (bs105_8 y57.1 A63 y61.1.length p64) (AllOwn.one ⟨[.int .i64 y57.1], [.slice A63 y61.1.length p64], [], _, rfl, rfl, ⟨rfl, rfl⟩, ⟨_, rfl, o66.toV⟩⟩) rfl rfl rfl fun b67 k68 w a hk o69 hs => ?_
       rcases ite_some H with ⟨c70, H⟩ | ⟨_, H⟩
       rotate_left
       ·cases H
       refine sapm 8 10 (xs := u32) (ys := [(⟨y57.1, y61.1⟩ : S_Result)]) hs rfl rfl o34 o69 rfl hk rfl rfl rfl rfl rfl rfl un55 mk105 rfl rfl rfl c70 fun A71 p72 k73 w a hk o74 hs => ?_
       refine sa _ rfl hk rfl rfl rfl fun a hk => ?_
       show wpList _ _ _ [] _ _
       refine wpList_nil ?_
       refine hK55 _ _ ?_
       apply wp_region_lit
       refine sv (.int .i64 (w64 (u29 + 1))) hk rfl rfl rfl fun a hk => ?_
       refine sm _ rfl hk rfl rfl rfl fun a hk => ?_
       show wpList _ _ _ [] _ _
       refine wpList_nil ?_
       obtain rfl := Option.some.inj H
       obtain ⟨m75, hmm75, h51⟩ := h51
       show ∃ n', n' < _ ∧ I48 n' _ _
       refine ⟨m75, hmm75, ?_⟩
       rw [hI48]
       exact ⟨(u32 ++ ([(⟨y57.1, y61.1⟩ : S_Result)])), (w64 (u29 + 1)), y61.2.1, y61.2.2, A71, p72, _, h51, (hk.c 2 rfl (hk.c 5 rfl (hk.c 7 rfl (hk.c 8 rfl (hk.c 23 rfl (hk.c 24 rfl hk.k)))))), (hs.pick [(8, 8), (1, 1), (2, 2), (3, 3), (105081, 105081), (105021, 105021), (104021, 104021), (104061, 104061), (104081, 104081)] rfl), o74⟩
      ·have hk := hk.lit 25 c54 rfl
       refine cnd_false hk rfl rfl ?_
       refine wp_exit ?_
       obtain rfl := Option.some.inj H
       show R47 _ _
       rw [hR47]
       exact ⟨u32, u30, u31, A35, p36, _, h51.symm, (hk.c 2 rfl (hk.c 5 rfl (hk.c 7 rfl (hk.c 8 rfl hk.k)))), (hs.pick [(8, 8), (1, 1), (2, 2), (3, 3), (105081, 105081), (105021, 105021), (104021, 104021), (104061, 104061), (104081, 104081)] rfl), o34⟩
    ·intro a w hR0
     rw [hR47] at hR0
     obtain ⟨u37, u42, u43, A40, p41, k38, rfl, hk, hs, o39⟩ := hR0
     have H := HL46
     try dsimp only at H
     refine hK18 _ _ ?_
     apply wp_seq_k; intro K76 hK76
     apply wp_seq_k; intro K77 hK77
     obtain ⟨o80, h81, HL82⟩ := bind_some H
     clear H
     obtain ⟨R83, hR83⟩ : ∃ R : Act → World → Prop, R = fun a w => ∃ (u79 : Bool), u79 = o80 ∧ Kn [(2, (.pointer (some ⟨b2, 0, none⟩))), (7, (.pointer (some ⟨b_r15_4_1, 0, none⟩))), (8, (.slice A40 u37.length p41)), (50, (.bool u79))] 54 a ∧ Sat [] w0 w [] [(8, k38), (1, [(b2, .cells #[.slice none 0 0, .slice none 0 0, .slice none 0 0, .slice none 0 0] 53 (0, 0))]), (105081, [(b_r15_4_1, .cells #[.slice A_r15_1_3 y_r15_1_1.1.length p_r15_1_4, .slice A_r12_1_3 y_r12_1_1.1.length p_r12_1_4, .slice A_r12_3_3 y_r12_3_1.1.length p_r12_3_4, .slice (some ⟨b_r12_4_2, 0, none⟩) (((15 : Int)).toNat) (((15 : Int)).toNat)] 53 (0, 0))]), (105021, k_r15_1_5), (104021, k_r12_1_5), (104061, k_r12_3_5), (104081, k_r12_4_3)] := ⟨_, rfl⟩
     refine wp_cutq R83 ?_ ?_
     ·have H := h81
      apply wp_region_lit
      refine sm _ rfl hk rfl rfl rfl fun a hk => ?_
      obtain ⟨y84, h85, H⟩ := bind_some H
      refine sc rfl en139 hk rfl rfl rfl (impl_reader_ends_t _ b6 (⟨y4.list, u42, u43⟩ : S_reader) A7 p8 _ o10.view (hs.hasG (k := 3) rfl) ((hs.hand [(1, 2)] rfl).dpick [(2, 3)] rfl) _ h85) ?_
      rintro _ w ⟨rfl, hG⟩ a hk
      have hs := hs.back [(1, 2)] rfl hG [2] rfl
      refine sv (.bool (!y84.1)) hk rfl rfl rfl fun a hk => ?_
      refine sm _ rfl hk rfl rfl rfl fun a hk => ?_
      rcases cond_some H with ⟨c86, H⟩ | ⟨c86, H⟩
      ·have hk := hk.lit 41 c86 rfl
       refine sk hk rfl rfl rfl fun a hk => ?_
       refine sk hk rfl rfl rfl fun a hk => ?_
       refine sk hk rfl rfl rfl fun a hk => ?_
       refine sv (.bool true) hk rfl rfl rfl fun a hk => ?_
       refine sm _ rfl hk rfl rfl rfl fun a hk => ?_
       refine sk hk rfl rfl rfl fun a hk => ?_
       refine sk hk rfl rfl rfl fun a hk => ?_
       refine sk hk rfl rfl rfl fun a hk => ?_
       refine sv (.bool true) hk rfl rfl rfl fun a hk => ?_
       show wpList _ _ _ [] _ _
       refine wpList_nil ?_
       obtain rfl := Option.some.inj H
       show R83 _ _
       rw [hR83]
       exact ⟨true, rfl, (hk.c 2 rfl (hk.c 7 rfl (hk.c 8 rfl (hk.c 50 rfl hk.k)))), (hs.pick [(8, 8), (1, 1), (105081, 105081), (105021, 105021), (104021, 104021), (104061, 104061), (104081, 104081)] rfl)⟩
      ·have hk := hk.lit 41 c86 rfl
       refine sln [.slice A_r15_1_3 y_r15_1_1.1.length p_r15_1_4, .slice A_r12_1_3 y_r12_1_1.1.length p_r12_1_4, .slice A_r12_3_3 y_r12_3_1.1.length p_r12_3_4, .slice (some ⟨b_r12_4_2, 0, none⟩) (((15 : Int)).toNat) (((15 : Int)).toNat)] rfl hk rfl rfl rfl ag53 sz53 (box_cells hs (k := 105081) rfl) fun a hk => ?_
       have hk := hk.re 42 (v' := (.agg #[.slice A_r15_1_3 y_r15_1_1.1.length p_r15_1_4, .slice A_r12_1_3 y_r12_1_1.1.length p_r12_1_4, .slice A_r12_3_3 y_r12_3_1.1.length p_r12_3_4, .slice (some ⟨b_r12_4_2, 0, none⟩) (List.replicate ((15 : Int)).toNat ([] : List S_Block)).length (((15 : Int)).toNat)])) rfl (by rw [lh_r12_4_5])
       obtain ⟨y87, h88, H⟩ := bind_some H
       refine sc rfl en32 hk rfl rfl rfl (impl_EncOK_t _ (⟨y_r15_1_1.1, (⟨y_r12_1_1.1, y_r12_3_1.1, (List.replicate ((15 : Int)).toNat ([] : List S_Block))⟩ : S_Oram)⟩ : S_Enc) A_r15_1_3 p_r15_1_4 _ o_r15_1_6.view (hs.hasG (k := 105021) rfl) A_r12_1_3 p_r12_1_4 _ o_r12_1_6.view (hs.hasG (k := 104021) rfl) A_r12_3_3 p_r12_3_4 _ o_r12_3_6.view (hs.hasG (k := 104061) rfl) (some ⟨b_r12_4_2, 0, none⟩) (((15 : Int)).toNat) _ o_r12_4_4.view (hs.hasG (k := 104081) rfl) _ h88) ?_
       rintro _ w ⟨rfl, hG⟩ a hk
       have hs := hs.call0 hG
       refine sv (.bool (!y87)) hk rfl rfl rfl fun a hk => ?_
       refine sv (.bool (!y87)) hk rfl rfl rfl fun a hk => ?_
       refine sm _ rfl hk rfl rfl rfl fun a hk => ?_
       rcases cond_some H with ⟨c89, H⟩ | ⟨c89, H⟩
       ·have hk := hk.lit 46 c89 rfl
        refine sk hk rfl rfl rfl fun a hk => ?_
        refine sk hk rfl rfl rfl fun a hk => ?_
        refine sk hk rfl rfl rfl fun a hk => ?_
        refine sv (.bool true) hk rfl rfl rfl fun a hk => ?_
        show wpList _ _ _ [] _ _
        refine wpList_nil ?_
        obtain rfl := Option.some.inj H
        show R83 _ _
        rw [hR83]
        exact ⟨true, rfl, (hk.c 2 rfl (hk.c 7 rfl (hk.c 8 rfl (hk.c 50 rfl hk.k)))), (hs.pick [(8, 8), (1, 1), (105081, 105081), (105021, 105021), (104021, 104021), (104061, 104061), (104081, 104081)] rfl)⟩
       ·have hk := hk.lit 46 c89 rfl
        refine sm _ rfl hk rfl rfl rfl fun a hk => ?_
        obtain ⟨y90, h91, H⟩ := bind_some H
        refine sc rfl en76 hk rfl rfl rfl (impl_areResults_t _ A40 p41 u37 _ o39.view (hs.hasG (k := 8) rfl) _ h91) ?_
        rintro _ w ⟨rfl, hG⟩ a hk
        have hs := hs.call0 hG
        refine sv (.bool (!y90)) hk rfl rfl rfl fun a hk => ?_
        refine sv (.bool (!y90)) hk rfl rfl rfl fun a hk => ?_
        show wpList _ _ _ [] _ _
        refine wpList_nil ?_
        obtain rfl := Option.some.inj H
        show R83 _ _
        rw [hR83]
        exact ⟨(!y90), rfl, (hk.c 2 rfl (hk.c 7 rfl (hk.c 8 rfl (hk.c 50 rfl hk.k)))), (hs.pick [(8, 8), (1, 1), (105081, 105081), (105021, 105021), (104021, 104021), (104061, 104061), (104081, 104081)] rfl)⟩
     ·intro a w hR0
      rw [hR83] at hR0
      obtain ⟨u79, rfl, hk, hs⟩ := hR0
      have H := HL82
      try dsimp only at H
      refine hK77 _ _ ?_
      rcases cond_some H with ⟨c92, H⟩ | ⟨c92, H⟩
      ·have hk := hk.lit 50 c92 rfl
       refine cnd_true hk rfl rfl ?_
       apply wp_seq_k; intro K93 hK93
       apply wp_region_lit
       refine sbd (pv := []) rfl hk rfl rfl rfl bd53_11 fun a hk => ?_
       refine ssw 1 hs rfl rfl hk rfl rfl rfl rfl sz53 (by simp [Value.oneCell']) rfl fun w a hk hs => ?_
       refine sa _ rfl hk rfl rfl rfl fun a hk => ?_
       refine sa _ rfl hk rfl rfl rfl fun a hk => ?_
       show wpList _ _ _ [] _ _
       refine wpList_nil ?_
       refine hK93 _ _ ?_
       refine wp_ret ?_
       obtain rfl := Option.some.inj H
       have hs := hs.addNil 12
       have hs := hs.addNil 13
       have hs := hs.addNil 14
       have hs := hs.addNil 15
       have hs := hs.addNil 16
       exact fin hk _ [(.agg #[.slice none 0 0, .slice none 0 0, .slice none 0 0, .slice none 0 0]), (.slice none 0 0), (.bool false)] rfl ⟨⟨_, rfl, run_loadN ag53 sz53 (box_cells hs (k := 1) rfl)⟩, ⟨rfl, ⟨rfl, trivial⟩⟩⟩ ⟨none, 0, [], none, 0, [], none, 0, [], none, 0, [], none, 0, [], rfl, Own.nil _ _, Own.nil _ _, Own.nil _ _, Own.nil _ _, Own.nil _ _, (hs.pick [(0, 12), (1, 13), (2, 14), (3, 15), (4, 16)] rfl).dnil⟩
      ·have hk := hk.lit 50 c92 rfl
       refine cnd_false hk rfl rfl ?_
       refine wp_skip ?_
       refine hK76 _ _ ?_
       apply wp_seq_k; intro K94 hK94
       apply wp_region_lit
       refine sln [.slice A_r15_1_3 y_r15_1_1.1.length p_r15_1_4, .slice A_r12_1_3 y_r12_1_1.1.length p_r12_1_4, .slice A_r12_3_3 y_r12_3_1.1.length p_r12_3_4, .slice (some ⟨b_r12_4_2, 0, none⟩) (((15 : Int)).toNat) (((15 : Int)).toNat)] rfl hk rfl rfl rfl ag53 sz53 (box_cells hs (k := 105081) rfl) fun a hk => ?_
       refine sm _ rfl hk rfl rfl rfl fun a hk => ?_
       refine ssw 1 hs rfl rfl hk rfl rfl rfl rfl sz53 (by simp [Value.oneCell']) rfl fun w a hk hs => ?_
       refine sa _ rfl hk rfl rfl rfl fun a hk => ?_
       refine sa _ rfl hk rfl rfl rfl fun a hk => ?_
       show wpList _ _ _ [] _ _
       refine wpList_nil ?_
       refine hK94 _ _ ?_
       refine wp_ret ?_
       obtain rfl := Option.some.inj H
       exact fin hk _ [(.agg #[.slice A_r15_1_3 y_r15_1_1.1.length p_r15_1_4, .slice A_r12_1_3 y_r12_1_1.1.length p_r12_1_4, .slice A_r12_3_3 y_r12_3_1.1.length p_r12_3_4, .slice (some ⟨b_r12_4_2, 0, none⟩) (((15 : Int)).toNat) (((15 : Int)).toNat)]), (.slice A40 u37.length p41), (.bool true)] rfl ⟨⟨_, rfl, run_loadN ag53 sz53 (box_cells hs (k := 1) rfl)⟩, ⟨rfl, ⟨rfl, trivial⟩⟩⟩ ⟨A_r15_1_3, p_r15_1_4, _, A_r12_1_3, p_r12_1_4, _, A_r12_3_3, p_r12_3_4, _, (some ⟨b_r12_4_2, 0, none⟩), (((15 : Int)).toNat), _, A40, p41, _, (by first | (rw [lh_r12_4_5]; done) | (rw [lh_r12_4_5]; rfl)), o_r15_1_6, o_r12_1_6, o_r12_3_6, o_r12_4_4, o39, (hs.pick [(0, 105021), (1, 104021), (2, 104061), (3, 104081), (4, 8)] rfl).dnil⟩

noncomputable def impl_ReadState.f (x0 : ByteArray) : Option (S_Enc × (List S_Result) × Int) :=
  ((impl_areShort.f ([x0])).bind fun y8 => (bif (!y8) then (some ((⟨([] : List Int), (⟨([] : List Int), ([] : List S_Block), ([] : List (List S_Block))⟩ : S_Oram)⟩ : S_Enc), ([] : List S_Result), 2)) else ((impl_readState.f x0).bind fun y13 => (bif (!y13.2.2) then (some ((⟨([] : List Int), (⟨([] : List Int), ([] : List S_Block), ([] : List (List S_Block))⟩ : S_Oram)⟩ : S_Enc), ([] : List S_Result), 3)) else (some (y13.1, y13.2.1, 0))))))
set_option maxRecDepth 100000 in
set_option maxHeartbeats 0 in
theorem impl_ReadState_t (w0 : World) (x0 : ByteArray) (r : S_Enc × (List S_Result) × Int) (H : impl_ReadState.f x0 = some r) :
    Calls Try.prog 44 #[.string x0] w0 (Ret (fun v w => ∃ (A0 : Option Addr) (p0 : Nat) (k0 : Chunk), ∃ (A1 : Option Addr) (p1 : Nat) (k1 : Chunk), ∃ (A2 : Option Addr) (p2 : Nat) (k2 : Chunk), ∃ (A3 : Option Addr) (p3 : Nat) (k3 : Chunk), ∃ (A4 : Option Addr) (p4 : Nat) (k4 : Chunk), v = .tuple #[.agg #[.slice A0 r.1.Keys.length p0, .slice A1 r.1.Oram.Pos.length p1, .slice A2 r.1.Oram.Stash.length p2, .slice A3 r.1.Oram.Buckets.length p3], .slice A4 r.2.1.length p4, .int .i64 r.2.2] ∧ Own (Lay.int .i64) 3 A0 p0 r.1.Keys k0 ∧ Own (Lay.int .i64) 3 A1 p1 r.1.Oram.Pos k1 ∧ Own L_Block 81 A2 p2 r.1.Oram.Stash k2 ∧ Own (Lay.sl L_Block 81) 26 A3 p3 r.1.Oram.Buckets k3 ∧ Own L_impl_Result 105 A4 p4 r.2.1 k4 ∧ Sat [] w0 w [] [(0, k0), (1, k1), (2, k2), (3, k3), (4, k4)])) := by
  have hs : Sat [] w0 w0 [] [] := Sat.init w0 [] [] (by simp) (by simp) List.nodup_nil (by simp [blks])
  unfold impl_ReadState.f at H
  refine enter Try.func44 rfl Try.ntmps44 rfl fun a hk => ?_
  apply wp_seq_k; intro K1 hK1
  apply wp_region_lit
  refine salx 1 hs rfl hk rfl rfl ze53 rfl fun b2 w a hk hs => ?_
  refine sa _ rfl hk rfl rfl rfl fun a hk => ?_
  refine sa _ rfl hk rfl rfl rfl fun a hk => ?_
  show wpList _ _ _ [] _ _
  refine wpList_nil ?_
  refine hK1 _ _ ?_
  apply wp_seq_k; intro K3 hK3
  apply wp_seq_k; intro K4 hK4
  apply wp_region_lit
  refine sm _ rfl hk rfl rfl rfl fun a hk => ?_
  refine sbs (L := Lay.str) (pv := [(0, (.string x0))]) (xs := [x0]) (ess := [[.string x0]]) 2 hs rfl hk rfl rfl rfl un154 (bs9_15 x0) (AllOwn.cons0 ⟨rfl, rfl⟩ AllOwn.nil) rfl rfl rfl fun b5 k6 w a hk o7 hs => ?_
  obtain ⟨y8, h9, H⟩ := bind_some H
  refine sc rfl en86 hk rfl rfl rfl (impl_areShort_t _ (some ⟨b5, 0, none⟩) 1 ([x0]) _ o7.view (hs.hasG (k := 2) rfl) _ h9) ?_
  rintro _ w ⟨rfl, hG⟩ a hk
  have hs := hs.call0 hG
  refine sv (.bool (!y8)) hk rfl rfl rfl fun a hk => ?_
  show wpList _ _ _ [] _ _
  refine wpList_nil ?_
  refine hK4 _ _ ?_
  rcases cond_some H with ⟨c10, H⟩ | ⟨c10, H⟩
  ·have hk := hk.lit 11 c10 rfl
   refine cnd_true hk rfl rfl ?_
   apply wp_seq_k; intro K11 hK11
   apply wp_region_lit
   refine sbd (pv := []) rfl hk rfl rfl rfl bd53_11 fun a hk => ?_
   refine ssw 1 hs rfl rfl hk rfl rfl rfl rfl sz53 (by simp [Value.oneCell']) rfl fun w a hk hs => ?_
   refine sa _ rfl hk rfl rfl rfl fun a hk => ?_
   refine sa _ rfl hk rfl rfl rfl fun a hk => ?_
   show wpList _ _ _ [] _ _
   refine wpList_nil ?_
   refine hK11 _ _ ?_
   refine wp_ret ?_
   obtain rfl := Option.some.inj H
   have hs := hs.addNil 3
   have hs := hs.addNil 4
   have hs := hs.addNil 5
   have hs := hs.addNil 6
   have hs := hs.addNil 7
   exact fin hk _ [(.agg #[.slice none 0 0, .slice none 0 0, .slice none 0 0, .slice none 0 0]), (.slice none 0 0), (.int .i64 2)] rfl ⟨⟨_, rfl, run_loadN ag53 sz53 (box_cells hs (k := 1) rfl)⟩, ⟨rfl, ⟨rfl, trivial⟩⟩⟩ ⟨none, 0, [], none, 0, [], none, 0, [], none, 0, [], none, 0, [], rfl, Own.nil _ _, Own.nil _ _, Own.nil _ _, Own.nil _ _, Own.nil _ _, (hs.pick [(0, 3), (1, 4), (2, 5), (3, 6), (4, 7)] rfl).dnil⟩
  ·have hk := hk.lit 11 c10 rfl
   refine cnd_false hk rfl rfl ?_
   refine wp_skip ?_
   refine hK3 _ _ ?_
   apply wp_seq_k; intro K12 hK12
   apply wp_region_lit
   refine sm _ rfl hk rfl rfl rfl fun a hk => ?_
   obtain ⟨y13, h14, H⟩ := bind_some H
   refine sc rfl en94 hk rfl rfl rfl (impl_readState_t _ x0 _ h14) ?_
   rintro _ w ⟨A15, p16, k17, A19, p20, k21, A23, p24, k25, A27, p28, k29, A31, p32, k33, rfl, o18, o22, o26, o30, o34, hG⟩ a hk
   have hs := hs.call0k hG [8, 9, 10, 11, 12] rfl
   refine sm _ rfl hk rfl rfl rfl fun a hk => ?_
   refine sv (.agg #[.slice A15 y13.1.Keys.length p16, .slice A19 y13.1.Oram.Pos.length p20, .slice A23 y13.1.Oram.Stash.length p24, .slice A27 y13.1.Oram.Buckets.length p28]) hk rfl rfl rfl fun a hk => ?_
   refine sv (.slice A31 y13.2.1.length p32) hk rfl rfl rfl fun a hk => ?_
   refine sv (.bool y13.2.2) hk rfl rfl rfl fun a hk => ?_
   refine salx 13 hs rfl hk rfl rfl ze53 rfl fun b35 w a hk hs => ?_
   refine ssw 13 hs rfl rfl hk rfl rfl rfl rfl sz53 (by simp [Value.oneCell']) rfl fun w a hk hs => ?_
   refine sa _ rfl hk rfl rfl rfl fun a hk => ?_
   refine sa _ rfl hk rfl rfl rfl fun a hk => ?_
   show wpList _ _ _ [] _ _
   refine wpList_nil ?_
   refine hK12 _ _ ?_
   apply wp_seq_k; intro K36 hK36
   apply wp_seq_k; intro K37 hK37
   apply wp_region_lit
   refine sm _ rfl hk rfl rfl rfl fun a hk => ?_
   refine sv (.bool (!y13.2.2)) hk rfl rfl rfl fun a hk => ?_
   show wpList _ _ _ [] _ _
   refine wpList_nil ?_
   refine hK37 _ _ ?_
   rcases cond_some H with ⟨c38, H⟩ | ⟨c38, H⟩
   ·have hk := hk.lit 20 c38 rfl
    refine cnd_true hk rfl rfl ?_
    apply wp_seq_k; intro K39 hK39
    apply wp_region_lit
    refine sbd (pv := []) rfl hk rfl rfl rfl bd53_11 fun a hk => ?_
    refine ssw 1 hs rfl rfl hk rfl rfl rfl rfl sz53 (by simp [Value.oneCell']) rfl fun w a hk hs => ?_
    refine sa _ rfl hk rfl rfl rfl fun a hk => ?_
    refine sa _ rfl hk rfl rfl rfl fun a hk => ?_
    show wpList _ _ _ [] _ _
    refine wpList_nil ?_
    refine hK39 _ _ ?_
    refine wp_ret ?_
    obtain rfl := Option.some.inj H
    have hs := hs.addNil 14
    have hs := hs.addNil 15
    have hs := hs.addNil 16
    have hs := hs.addNil 17
    have hs := hs.addNil 18
    exact fin hk _ [(.agg #[.slice none 0 0, .slice none 0 0, .slice none 0 0, .slice none 0 0]), (.slice none 0 0), (.int .i64 3)] rfl ⟨⟨_, rfl, run_loadN ag53 sz53 (box_cells hs (k := 1) rfl)⟩, ⟨rfl, ⟨rfl, trivial⟩⟩⟩ ⟨none, 0, [], none, 0, [], none, 0, [], none, 0, [], none, 0, [], rfl, Own.nil _ _, Own.nil _ _, Own.nil _ _, Own.nil _ _, Own.nil _ _, (hs.pick [(0, 14), (1, 15), (2, 16), (3, 17), (4, 18)] rfl).dnil⟩
   ·have hk := hk.lit 20 c38 rfl
    refine cnd_false hk rfl rfl ?_
    refine wp_skip ?_
    refine hK36 _ _ ?_
    apply wp_seq_k; intro K40 hK40
    apply wp_region_lit
    refine sln [.slice A15 y13.1.Keys.length p16, .slice A19 y13.1.Oram.Pos.length p20, .slice A23 y13.1.Oram.Stash.length p24, .slice A27 y13.1.Oram.Buckets.length p28] rfl hk rfl rfl rfl ag53 sz53 (box_cells hs (k := 13) rfl) fun a hk => ?_
    refine sm _ rfl hk rfl rfl rfl fun a hk => ?_
    refine ssw 1 hs rfl rfl hk rfl rfl rfl rfl sz53 (by simp [Value.oneCell']) rfl fun w a hk hs => ?_
    refine sa _ rfl hk rfl rfl rfl fun a hk => ?_
    refine sa _ rfl hk rfl rfl rfl fun a hk => ?_
    show wpList _ _ _ [] _ _
    refine wpList_nil ?_
    refine hK40 _ _ ?_
    refine wp_ret ?_
    obtain rfl := Option.some.inj H
    exact fin hk _ [(.agg #[.slice A15 y13.1.Keys.length p16, .slice A19 y13.1.Oram.Pos.length p20, .slice A23 y13.1.Oram.Stash.length p24, .slice A27 y13.1.Oram.Buckets.length p28]), (.slice A31 y13.2.1.length p32), (.int .i64 0)] rfl ⟨⟨_, rfl, run_loadN ag53 sz53 (box_cells hs (k := 1) rfl)⟩, ⟨rfl, ⟨rfl, trivial⟩⟩⟩ ⟨A15, p16, _, A19, p20, _, A23, p24, _, A27, p28, _, A31, p32, _, rfl, o18, o22, o26, o30, o34, (hs.pick [(0, 8), (1, 9), (2, 10), (3, 11), (4, 12)] rfl).dnil⟩

noncomputable def laws_markIntS.s0 (l0 : List Int) (u6 : List Int) (u10 : Int) (u11 : Int) : Option (((List Int) × Int × Int) ⊕ Ex ((List Int) × Int) (Int × (List Int))) :=
  (bif (decide (u11 < (l0.length : Int))) then (if 0 ≤ u11 ∧ u11 < (l0.length : Int) then (some (.inl ((u6.set u11.toNat u10), (w64 (u10 + 1)), (w64 (u11 + 1))))) else none) else (some (.inr (.out (u6, u10)))))
noncomputable def laws_markIntS.f (l0 : List Int) (x1 : Int) : Option (Int × (List Int)) :=
  ((loopO (fun s => laws_markIntS.s0 l0 s.1 s.2.1 s.2.2) (l0, x1, 0)).bind fun o => match o with | .out (u12, u16) => (some (u16, u12)) | .ret r => (some r))
set_option maxRecDepth 100000 in
set_option maxHeartbeats 0 in
theorem laws_markIntS_t (w0 : World) (A0_ : Option Addr) (p0_ : Nat) (l0 : List Int) (k0_ : Chunk) (v0_ : Own (Lay.int .i64) 3 A0_ p0_ l0 k0_) (x1 : Int) (hs0 : Sat (blks [(1, k0_)]) w0 w0 [] [(1, k0_)]) (r : Int × (List Int)) (H : laws_markIntS.f l0 x1 = some r) :
    Calls Try.prog 40 #[.slice A0_ l0.length p0_, .int .i64 x1] w0 (Ret (fun v w => ∃ (k0 : Chunk), v = .int .i64 r.1 ∧ (Own (Lay.int .i64) 3 A0_ p0_ r.2 k0 ∧ r.2.length = l0.length) ∧ Sat (blks [(1, k0_)]) w0 w [] [(0, k0)])) := by
  have hs := hs0
  unfold laws_markIntS.f at H
  refine enter Try.func40 rfl Try.ntmps40 rfl fun a hk => ?_
  apply wp_seq_k; intro K1 hK1
  apply wp_region_lit
  refine sa _ rfl hk rfl rfl rfl fun a hk => ?_
  show wpList _ _ _ [] _ _
  refine wpList_nil ?_
  refine hK1 _ _ ?_
  apply wp_seq_k; intro K2 hK2
  apply wp_seq_k; intro K3 hK3
  apply wp_region_lit
  refine sa _ rfl hk rfl rfl rfl fun a hk => ?_
  show wpList _ _ _ [] _ _
  refine wpList_nil ?_
  refine hK3 _ _ ?_
  obtain ⟨o17, h18, HL19⟩ := bind_some H
  clear H
  obtain ⟨R20, hR20⟩ : ∃ R : Act → World → Prop, R = fun a w => ∃ (u12 : List Int) (u16 : Int) (k13 : Chunk), o17 = .out (u12, u16) ∧ Kn [(0, (.slice A0_ l0.length p0_)), (1, (.int .i64 u16))] 19 a ∧ Sat (blks [(1, k0_)]) w0 w [] [(1, k13)] ∧ Own (Lay.int .i64) 3 A0_ p0_ u12 k13 ∧ u12.length = l0.length := ⟨_, rfl⟩
  refine wp_cutq R20 ?_ ?_
  ·refine wp_block ?_
   obtain ⟨fu22, h18⟩ := loopO_some h18
   obtain ⟨I21, hI21⟩ : ∃ I : Nat → Act → World → Prop, I = fun fu a w => ∃ (u6 : List Int) (u10 : Int) (u11 : Int) (k7 : Chunk), loopN (fun s => laws_markIntS.s0 l0 s.1 s.2.1 s.2.2) fu (u6, u10, u11) = some o17 ∧ Kn [(0, (.slice A0_ l0.length p0_)), (1, (.int .i64 u10)), (5, (.int .i64 u11))] 19 a ∧ Sat (blks [(1, k0_)]) w0 w [] [(1, k7)] ∧ Own (Lay.int .i64) 3 A0_ p0_ u6 k7 ∧ u6.length = l0.length := ⟨_, rfl⟩
   refine wp_loop_ghost I21 fu22 ?_ ?_
   ·rw [hI21]
    exact ⟨l0, x1, 0, _, h18, (hk.c 0 rfl (hk.c 1 rfl (hk.c 5 rfl hk.k))), (hs.pick [(1, 1)] rfl), v0_, rfl⟩
   ·clear h18 hk hs
    intro fu22 a w hI0
    rw [hI21] at hI0
    obtain ⟨u6, u10, u11, k7, hi, hk, hs, o8, lh9⟩ := hI0
    obtain ⟨x23, H, h24⟩ := loop_round hi
    try dsimp only at H
    unfold laws_markIntS.s0 at H
    apply wp_seq_k; intro K25 hK25
    apply wp_seq_k; intro K26 hK26
    apply wp_region_lit
    refine sm _ rfl hk rfl rfl rfl fun a hk => ?_
    refine sm _ rfl hk rfl rfl rfl fun a hk => ?_
    refine sle rfl hk rfl rfl rfl un31 fun a hk => ?_
    refine sv (.bool (decide (u11 < (l0.length : Int)))) hk rfl rfl rfl fun a hk => ?_
    show wpList _ _ _ [] _ _
    refine wpList_nil ?_
    refine hK26 _ _ ?_
    rcases cond_some H with ⟨c27, H⟩ | ⟨c27, H⟩
    ·have hk := hk.lit 9 c27 rfl
     refine cnd_true hk rfl rfl ?_
     refine wp_skip ?_
     refine hK25 _ _ ?_
     apply wp_seq_k; intro K28 hK28
     refine wp_block ?_
     apply wp_seq_k; intro K29 hK29
     apply wp_region_lit
     refine sm _ rfl hk rfl rfl rfl fun a hk => ?_
     refine sm _ rfl hk rfl rfl rfl fun a hk => ?_
     refine sm _ rfl hk rfl rfl rfl fun a hk => ?_
     rcases ite_some H with ⟨c30, H⟩ | ⟨_, H⟩
     rotate_left
     ·cases H
     obtain ⟨b31, q32, hAc30⟩ := (o8.view).some_ u11 c30.1 (by rw [lh9]; exact c30.2)
     refine si rfl hk rfl rfl rfl rfl un31 sz3 c30.1 c30.2 hAc30 fun a hk => ?_
     refine so (j := 0) 1 0 u10 hs rfl o8 c30.1 (by rw [lh9]; exact c30.2) rfl hk rfl rfl rfl rfl rfl sz3 (by simp [Value.cells, Value.oneCell']) (Nat.le_of_ble_eq_true rfl) (fun _ _ h => ⟨by rw [h.1]; rfl, h.2⟩) fun k33 w a hk o34 hs => ?_
     have lh35 : (u6.set u11.toNat u10).length = l0.length := by rw [List.length_set]; exact lh9
     show wpList _ _ _ [] _ _
     refine wpList_nil ?_
     refine hK29 _ _ ?_
     apply wp_region_lit
     refine sm _ rfl hk rfl rfl rfl fun a hk => ?_
     refine sv (.int .i64 (w64 (u10 + 1))) hk rfl rfl rfl fun a hk => ?_
     refine sa _ rfl hk rfl rfl rfl fun a hk => ?_
     show wpList _ _ _ [] _ _
     refine wpList_nil ?_
     refine hK28 _ _ ?_
     apply wp_region_lit
     refine sm _ rfl hk rfl rfl rfl fun a hk => ?_
     refine sv (.int .i64 (w64 (u11 + 1))) hk rfl rfl rfl fun a hk => ?_
     refine sa _ rfl hk rfl rfl rfl fun a hk => ?_
     show wpList _ _ _ [] _ _
     refine wpList_nil ?_
     obtain rfl := Option.some.inj H
     obtain ⟨m36, hmm36, h24⟩ := h24
     show ∃ n', n' < _ ∧ I21 n' _ _
     refine ⟨m36, hmm36, ?_⟩
     rw [hI21]
     exact ⟨(u6.set u11.toNat u10), (w64 (u10 + 1)), (w64 (u11 + 1)), _, h24, (hk.c 0 rfl (hk.c 1 rfl (hk.c 5 rfl hk.k))), (hs.pick [(1, 1)] rfl), o34, lh35⟩
    ·have hk := hk.lit 9 c27 rfl
     refine cnd_false hk rfl rfl ?_
     refine wp_exit ?_
     obtain rfl := Option.some.inj H
     show R20 _ _
     rw [hR20]
     exact ⟨u6, u10, _, h24.symm, (hk.c 0 rfl (hk.c 1 rfl hk.k)), (hs.pick [(1, 1)] rfl), o8, lh9⟩
  ·intro a w hR0
   rw [hR20] at hR0
   obtain ⟨u12, u16, k13, rfl, hk, hs, o14, lh15⟩ := hR0
   have H := HL19
   try dsimp only at H
   refine hK2 _ _ ?_
   apply wp_seq_k; intro K37 hK37
   apply wp_region_lit
   refine sm _ rfl hk rfl rfl rfl fun a hk => ?_
   refine sa _ rfl hk rfl rfl rfl fun a hk => ?_
   show wpList _ _ _ [] _ _
   refine wpList_nil ?_
   refine hK37 _ _ ?_
   refine wp_ret ?_
   obtain rfl := Option.some.inj H
   exact fin hk _ [(.int .i64 u16)] rfl ⟨rfl, trivial⟩ ⟨_, rfl, ⟨o14, lh15⟩, (hs.pick [(0, 1)] rfl).dnil⟩

noncomputable def laws_markBlockS.s0 (l0 : List S_Block) (u6 : List S_Block) (u10 : Int) (u11 : Int) : Option (((List S_Block) × Int × Int) ⊕ Ex ((List S_Block) × Int) (Int × (List S_Block))) :=
  (bif (decide (u11 < (l0.length : Int))) then (if 0 ≤ u11 ∧ u11 < (l0.length : Int) then (if 0 ≤ u11 ∧ u11 < (l0.length : Int) then (if 0 ≤ u11 ∧ u11 < (l0.length : Int) then (some (.inl ((((u6.set u11.toNat (⟨u10, (u6.getD u11.toNat z_Block).Leaf, (u6.getD u11.toNat z_Block).Value⟩ : S_Block)).set u11.toNat (⟨((u6.set u11.toNat (⟨u10, (u6.getD u11.toNat z_Block).Leaf, (u6.getD u11.toNat z_Block).Value⟩ : S_Block)).getD u11.toNat z_Block).Id, (w64 (u10 + 1)), ((u6.set u11.toNat (⟨u10, (u6.getD u11.toNat z_Block).Leaf, (u6.getD u11.toNat z_Block).Value⟩ : S_Block)).getD u11.toNat z_Block).Value⟩ : S_Block)).set u11.toNat (⟨(((u6.set u11.toNat (⟨u10, (u6.getD u11.toNat z_Block).Leaf, (u6.getD u11.toNat z_Block).Value⟩ : S_Block)).set u11.toNat (⟨((u6.set u11.toNat (⟨u10, (u6.getD u11.toNat z_Block).Leaf, (u6.getD u11.toNat z_Block).Value⟩ : S_Block)).getD u11.toNat z_Block).Id, (w64 (u10 + 1)), ((u6.set u11.toNat (⟨u10, (u6.getD u11.toNat z_Block).Leaf, (u6.getD u11.toNat z_Block).Value⟩ : S_Block)).getD u11.toNat z_Block).Value⟩ : S_Block)).getD u11.toNat z_Block).Id, (((u6.set u11.toNat (⟨u10, (u6.getD u11.toNat z_Block).Leaf, (u6.getD u11.toNat z_Block).Value⟩ : S_Block)).set u11.toNat (⟨((u6.set u11.toNat (⟨u10, (u6.getD u11.toNat z_Block).Leaf, (u6.getD u11.toNat z_Block).Value⟩ : S_Block)).getD u11.toNat z_Block).Id, (w64 (u10 + 1)), ((u6.set u11.toNat (⟨u10, (u6.getD u11.toNat z_Block).Leaf, (u6.getD u11.toNat z_Block).Value⟩ : S_Block)).getD u11.toNat z_Block).Value⟩ : S_Block)).getD u11.toNat z_Block).Leaf, (w64 ((w64 (u10 + 1)) + 1))⟩ : S_Block)), (w64 ((w64 ((w64 (u10 + 1)) + 1)) + 1)), (w64 (u11 + 1))))) else none) else none) else none) else (some (.inr (.out (u6, u10)))))
noncomputable def laws_markBlockS.f (l0 : List S_Block) (x1 : Int) : Option (Int × (List S_Block)) :=
  ((loopO (fun s => laws_markBlockS.s0 l0 s.1 s.2.1 s.2.2) (l0, x1, 0)).bind fun o => match o with | .out (u12, u16) => (some (u16, u12)) | .ret r => (some r))
set_option maxRecDepth 100000 in
set_option maxHeartbeats 0 in
theorem laws_markBlockS_t (w0 : World) (A0_ : Option Addr) (p0_ : Nat) (l0 : List S_Block) (k0_ : Chunk) (v0_ : Own L_Block 81 A0_ p0_ l0 k0_) (x1 : Int) (hs0 : Sat (blks [(1, k0_)]) w0 w0 [] [(1, k0_)]) (r : Int × (List S_Block)) (H : laws_markBlockS.f l0 x1 = some r) :
    Calls Try.prog 35 #[.slice A0_ l0.length p0_, .int .i64 x1] w0 (Ret (fun v w => ∃ (k0 : Chunk), v = .int .i64 r.1 ∧ (Own L_Block 81 A0_ p0_ r.2 k0 ∧ r.2.length = l0.length) ∧ Sat (blks [(1, k0_)]) w0 w [] [(0, k0)])) := by
  have hs := hs0
  unfold laws_markBlockS.f at H
  refine enter Try.func35 rfl Try.ntmps35 rfl fun a hk => ?_
  apply wp_seq_k; intro K1 hK1
  apply wp_region_lit
  refine sa _ rfl hk rfl rfl rfl fun a hk => ?_
  show wpList _ _ _ [] _ _
  refine wpList_nil ?_
  refine hK1 _ _ ?_
  apply wp_seq_k; intro K2 hK2
  apply wp_seq_k; intro K3 hK3
  apply wp_region_lit
  refine sa _ rfl hk rfl rfl rfl fun a hk => ?_
  show wpList _ _ _ [] _ _
  refine wpList_nil ?_
  refine hK3 _ _ ?_
  obtain ⟨o17, h18, HL19⟩ := bind_some H
  clear H
  obtain ⟨R20, hR20⟩ : ∃ R : Act → World → Prop, R = fun a w => ∃ (u12 : List S_Block) (u16 : Int) (k13 : Chunk), o17 = .out (u12, u16) ∧ Kn [(0, (.slice A0_ l0.length p0_)), (1, (.int .i64 u16))] 34 a ∧ Sat (blks [(1, k0_)]) w0 w [] [(1, k13)] ∧ Own L_Block 81 A0_ p0_ u12 k13 ∧ u12.length = l0.length := ⟨_, rfl⟩
  refine wp_cutq R20 ?_ ?_
  ·refine wp_block ?_
   obtain ⟨fu22, h18⟩ := loopO_some h18
   obtain ⟨I21, hI21⟩ : ∃ I : Nat → Act → World → Prop, I = fun fu a w => ∃ (u6 : List S_Block) (u10 : Int) (u11 : Int) (k7 : Chunk), loopN (fun s => laws_markBlockS.s0 l0 s.1 s.2.1 s.2.2) fu (u6, u10, u11) = some o17 ∧ Kn [(0, (.slice A0_ l0.length p0_)), (1, (.int .i64 u10)), (5, (.int .i64 u11))] 34 a ∧ Sat (blks [(1, k0_)]) w0 w [] [(1, k7)] ∧ Own L_Block 81 A0_ p0_ u6 k7 ∧ u6.length = l0.length := ⟨_, rfl⟩
   refine wp_loop_ghost I21 fu22 ?_ ?_
   ·rw [hI21]
    exact ⟨l0, x1, 0, _, h18, (hk.c 0 rfl (hk.c 1 rfl (hk.c 5 rfl hk.k))), (hs.pick [(1, 1)] rfl), v0_, rfl⟩
   ·clear h18 hk hs
    intro fu22 a w hI0
    rw [hI21] at hI0
    obtain ⟨u6, u10, u11, k7, hi, hk, hs, o8, lh9⟩ := hI0
    obtain ⟨x23, H, h24⟩ := loop_round hi
    try dsimp only at H
    unfold laws_markBlockS.s0 at H
    apply wp_seq_k; intro K25 hK25
    apply wp_seq_k; intro K26 hK26
    apply wp_region_lit
    refine sm _ rfl hk rfl rfl rfl fun a hk => ?_
    refine sm _ rfl hk rfl rfl rfl fun a hk => ?_
    refine sle rfl hk rfl rfl rfl un26 fun a hk => ?_
    refine sv (.bool (decide (u11 < (l0.length : Int)))) hk rfl rfl rfl fun a hk => ?_
    show wpList _ _ _ [] _ _
    refine wpList_nil ?_
    refine hK26 _ _ ?_
    rcases cond_some H with ⟨c27, H⟩ | ⟨c27, H⟩
    ·have hk := hk.lit 9 c27 rfl
     refine cnd_true hk rfl rfl ?_
     refine wp_skip ?_
     refine hK25 _ _ ?_
     apply wp_seq_k; intro K28 hK28
     refine wp_block ?_
     apply wp_seq_k; intro K29 hK29
     apply wp_region_lit
     refine sm _ rfl hk rfl rfl rfl fun a hk => ?_
     refine sm _ rfl hk rfl rfl rfl fun a hk => ?_
     refine sm _ rfl hk rfl rfl rfl fun a hk => ?_
     rcases ite_some H with ⟨c30, H⟩ | ⟨_, H⟩
     rotate_left
     ·cases H
     obtain ⟨b31, q32, hAc30⟩ := (o8.view).some_ u11 c30.1 (by rw [lh9]; exact c30.2)
     refine si rfl hk rfl rfl rfl rfl un26 sz81 c30.1 c30.2 hAc30 fun a hk => ?_
     refine sf (padd A0_ (u11.toNat * 3 + 0)) rfl hk rfl rfl rfl fd81_0 (padd_add _ _ _) fun a hk => ?_
     refine so (j := 0) 1 z_Block (⟨u10, (u6.getD u11.toNat z_Block).Leaf, (u6.getD u11.toNat z_Block).Value⟩ : S_Block) hs rfl o8 c30.1 (by rw [lh9]; exact c30.2) rfl hk rfl rfl rfl rfl rfl sz3 (by simp [Value.cells, Value.oneCell']) (Nat.le_of_ble_eq_true rfl) (fun _ _ h => ⟨by rw [h.1]; rfl, h.2⟩) fun k33 w a hk o34 hs => ?_
     have lh35 : (u6.set u11.toNat (⟨u10, (u6.getD u11.toNat z_Block).Leaf, (u6.getD u11.toNat z_Block).Value⟩ : S_Block)).length = l0.length := by rw [List.length_set]; exact lh9
     show wpList _ _ _ [] _ _
     refine wpList_nil ?_
     refine hK29 _ _ ?_
     apply wp_seq_k; intro K36 hK36
     apply wp_region_lit
     refine sm _ rfl hk rfl rfl rfl fun a hk => ?_
     refine sv (.int .i64 (w64 (u10 + 1))) hk rfl rfl rfl fun a hk => ?_
     refine sa _ rfl hk rfl rfl rfl fun a hk => ?_
     show wpList _ _ _ [] _ _
     refine wpList_nil ?_
     refine hK36 _ _ ?_
     apply wp_seq_k; intro K37 hK37
     apply wp_region_lit
     refine sm _ rfl hk rfl rfl rfl fun a hk => ?_
     refine sm _ rfl hk rfl rfl rfl fun a hk => ?_
     refine sm _ rfl hk rfl rfl rfl fun a hk => ?_
     rcases ite_some H with ⟨c38, H⟩ | ⟨_, H⟩
     rotate_left
     ·cases H
     obtain ⟨b39, q40, hAc38⟩ := (o34.view).some_ u11 c38.1 (by rw [lh35]; exact c38.2)
     refine si rfl hk rfl rfl rfl rfl un26 sz81 c38.1 c38.2 hAc38 fun a hk => ?_
     refine sf (padd A0_ (u11.toNat * 3 + 1)) rfl hk rfl rfl rfl fd81_1 (padd_add _ _ _) fun a hk => ?_
     refine so (j := 1) 1 z_Block (⟨((u6.set u11.toNat (⟨u10, (u6.getD u11.toNat z_Block).Leaf, (u6.getD u11.toNat z_Block).Value⟩ : S_Block)).getD u11.toNat z_Block).Id, (w64 (u10 + 1)), ((u6.set u11.toNat (⟨u10, (u6.getD u11.toNat z_Block).Leaf, (u6.getD u11.toNat z_Block).Value⟩ : S_Block)).getD u11.toNat z_Block).Value⟩ : S_Block) hs rfl o34 c38.1 (by rw [lh35]; exact c38.2) rfl hk rfl rfl rfl rfl rfl sz3 (by simp [Value.cells, Value.oneCell']) (Nat.le_of_ble_eq_true rfl) (fun _ _ h => ⟨by rw [h.1]; rfl, h.2⟩) fun k41 w a hk o42 hs => ?_
     have lh43 : ((u6.set u11.toNat (⟨u10, (u6.getD u11.toNat z_Block).Leaf, (u6.getD u11.toNat z_Block).Value⟩ : S_Block)).set u11.toNat (⟨((u6.set u11.toNat (⟨u10, (u6.getD u11.toNat z_Block).Leaf, (u6.getD u11.toNat z_Block).Value⟩ : S_Block)).getD u11.toNat z_Block).Id, (w64 (u10 + 1)), ((u6.set u11.toNat (⟨u10, (u6.getD u11.toNat z_Block).Leaf, (u6.getD u11.toNat z_Block).Value⟩ : S_Block)).getD u11.toNat z_Block).Value⟩ : S_Block)).length = l0.length := by rw [List.length_set]; exact lh35
     show wpList _ _ _ [] _ _
     refine wpList_nil ?_
     refine hK37 _ _ ?_
     apply wp_seq_k; intro K44 hK44
     apply wp_region_lit
     refine sm _ rfl hk rfl rfl rfl fun a hk => ?_
     refine sv (.int .i64 (w64 ((w64 (u10 + 1)) + 1))) hk rfl rfl rfl fun a hk => ?_
     refine sa _ rfl hk rfl rfl rfl fun a hk => ?_
     show wpList _ _ _ [] _ _
     refine wpList_nil ?_
     refine hK44 _ _ ?_
     apply wp_seq_k; intro K45 hK45
     apply wp_region_lit
     refine sm _ rfl hk rfl rfl rfl fun a hk => ?_
     refine sm _ rfl hk rfl rfl rfl fun a hk => ?_
     refine sm _ rfl hk rfl rfl rfl fun a hk => ?_
     rcases ite_some H with ⟨c46, H⟩ | ⟨_, H⟩
     rotate_left
     ·cases H
     obtain ⟨b47, q48, hAc46⟩ := (o42.view).some_ u11 c46.1 (by rw [lh43]; exact c46.2)
     refine si rfl hk rfl rfl rfl rfl un26 sz81 c46.1 c46.2 hAc46 fun a hk => ?_
     refine sf (padd A0_ (u11.toNat * 3 + 2)) rfl hk rfl rfl rfl fd81_2 (padd_add _ _ _) fun a hk => ?_
     refine so (j := 2) 1 z_Block (⟨(((u6.set u11.toNat (⟨u10, (u6.getD u11.toNat z_Block).Leaf, (u6.getD u11.toNat z_Block).Value⟩ : S_Block)).set u11.toNat (⟨((u6.set u11.toNat (⟨u10, (u6.getD u11.toNat z_Block).Leaf, (u6.getD u11.toNat z_Block).Value⟩ : S_Block)).getD u11.toNat z_Block).Id, (w64 (u10 + 1)), ((u6.set u11.toNat (⟨u10, (u6.getD u11.toNat z_Block).Leaf, (u6.getD u11.toNat z_Block).Value⟩ : S_Block)).getD u11.toNat z_Block).Value⟩ : S_Block)).getD u11.toNat z_Block).Id, (((u6.set u11.toNat (⟨u10, (u6.getD u11.toNat z_Block).Leaf, (u6.getD u11.toNat z_Block).Value⟩ : S_Block)).set u11.toNat (⟨((u6.set u11.toNat (⟨u10, (u6.getD u11.toNat z_Block).Leaf, (u6.getD u11.toNat z_Block).Value⟩ : S_Block)).getD u11.toNat z_Block).Id, (w64 (u10 + 1)), ((u6.set u11.toNat (⟨u10, (u6.getD u11.toNat z_Block).Leaf, (u6.getD u11.toNat z_Block).Value⟩ : S_Block)).getD u11.toNat z_Block).Value⟩ : S_Block)).getD u11.toNat z_Block).Leaf, (w64 ((w64 (u10 + 1)) + 1))⟩ : S_Block) hs rfl o42 c46.1 (by rw [lh43]; exact c46.2) rfl hk rfl rfl rfl rfl rfl sz3 (by simp [Value.cells, Value.oneCell']) (Nat.le_of_ble_eq_true rfl) (fun _ _ h => ⟨by rw [h.1]; rfl, h.2⟩) fun k49 w a hk o50 hs => ?_
     have lh51 : (((u6.set u11.toNat (⟨u10, (u6.getD u11.toNat z_Block).Leaf, (u6.getD u11.toNat z_Block).Value⟩ : S_Block)).set u11.toNat (⟨((u6.set u11.toNat (⟨u10, (u6.getD u11.toNat z_Block).Leaf, (u6.getD u11.toNat z_Block).Value⟩ : S_Block)).getD u11.toNat z_Block).Id, (w64 (u10 + 1)), ((u6.set u11.toNat (⟨u10, (u6.getD u11.toNat z_Block).Leaf, (u6.getD u11.toNat z_Block).Value⟩ : S_Block)).getD u11.toNat z_Block).Value⟩ : S_Block)).set u11.toNat (⟨(((u6.set u11.toNat (⟨u10, (u6.getD u11.toNat z_Block).Leaf, (u6.getD u11.toNat z_Block).Value⟩ : S_Block)).set u11.toNat (⟨((u6.set u11.toNat (⟨u10, (u6.getD u11.toNat z_Block).Leaf, (u6.getD u11.toNat z_Block).Value⟩ : S_Block)).getD u11.toNat z_Block).Id, (w64 (u10 + 1)), ((u6.set u11.toNat (⟨u10, (u6.getD u11.toNat z_Block).Leaf, (u6.getD u11.toNat z_Block).Value⟩ : S_Block)).getD u11.toNat z_Block).Value⟩ : S_Block)).getD u11.toNat z_Block).Id, (((u6.set u11.toNat (⟨u10, (u6.getD u11.toNat z_Block).Leaf, (u6.getD u11.toNat z_Block).Value⟩ : S_Block)).set u11.toNat (⟨((u6.set u11.toNat (⟨u10, (u6.getD u11.toNat z_Block).Leaf, (u6.getD u11.toNat z_Block).Value⟩ : S_Block)).getD u11.toNat z_Block).Id, (w64 (u10 + 1)), ((u6.set u11.toNat (⟨u10, (u6.getD u11.toNat z_Block).Leaf, (u6.getD u11.toNat z_Block).Value⟩ : S_Block)).getD u11.toNat z_Block).Value⟩ : S_Block)).getD u11.toNat z_Block).Leaf, (w64 ((w64 (u10 + 1)) + 1))⟩ : S_Block)).length = l0.length := by rw [List.length_set]; exact lh43
     show wpList _ _ _ [] _ _
     refine wpList_nil ?_
     refine hK45 _ _ ?_
     apply wp_region_lit
     refine sm _ rfl hk rfl rfl rfl fun a hk => ?_
     refine sv (.int .i64 (w64 ((w64 ((w64 (u10 + 1)) + 1)) + 1))) hk rfl rfl rfl fun a hk => ?_
     refine sa _ rfl hk rfl rfl rfl fun a hk => ?_
     show wpList _ _ _ [] _ _
     refine wpList_nil ?_
     refine hK28 _ _ ?_
     apply wp_region_lit
     refine sm _ rfl hk rfl rfl rfl fun a hk => ?_
     refine sv (.int .i64 (w64 (u11 + 1))) hk rfl rfl rfl fun a hk => ?_
     refine sa _ rfl hk rfl rfl rfl fun a hk => ?_
     show wpList _ _ _ [] _ _
     refine wpList_nil ?_
     obtain rfl := Option.some.inj H
     obtain ⟨m52, hmm52, h24⟩ := h24
     show ∃ n', n' < _ ∧ I21 n' _ _
     refine ⟨m52, hmm52, ?_⟩
     rw [hI21]
     exact ⟨(((u6.set u11.toNat (⟨u10, (u6.getD u11.toNat z_Block).Leaf, (u6.getD u11.toNat z_Block).Value⟩ : S_Block)).set u11.toNat (⟨((u6.set u11.toNat (⟨u10, (u6.getD u11.toNat z_Block).Leaf, (u6.getD u11.toNat z_Block).Value⟩ : S_Block)).getD u11.toNat z_Block).Id, (w64 (u10 + 1)), ((u6.set u11.toNat (⟨u10, (u6.getD u11.toNat z_Block).Leaf, (u6.getD u11.toNat z_Block).Value⟩ : S_Block)).getD u11.toNat z_Block).Value⟩ : S_Block)).set u11.toNat (⟨(((u6.set u11.toNat (⟨u10, (u6.getD u11.toNat z_Block).Leaf, (u6.getD u11.toNat z_Block).Value⟩ : S_Block)).set u11.toNat (⟨((u6.set u11.toNat (⟨u10, (u6.getD u11.toNat z_Block).Leaf, (u6.getD u11.toNat z_Block).Value⟩ : S_Block)).getD u11.toNat z_Block).Id, (w64 (u10 + 1)), ((u6.set u11.toNat (⟨u10, (u6.getD u11.toNat z_Block).Leaf, (u6.getD u11.toNat z_Block).Value⟩ : S_Block)).getD u11.toNat z_Block).Value⟩ : S_Block)).getD u11.toNat z_Block).Id, (((u6.set u11.toNat (⟨u10, (u6.getD u11.toNat z_Block).Leaf, (u6.getD u11.toNat z_Block).Value⟩ : S_Block)).set u11.toNat (⟨((u6.set u11.toNat (⟨u10, (u6.getD u11.toNat z_Block).Leaf, (u6.getD u11.toNat z_Block).Value⟩ : S_Block)).getD u11.toNat z_Block).Id, (w64 (u10 + 1)), ((u6.set u11.toNat (⟨u10, (u6.getD u11.toNat z_Block).Leaf, (u6.getD u11.toNat z_Block).Value⟩ : S_Block)).getD u11.toNat z_Block).Value⟩ : S_Block)).getD u11.toNat z_Block).Leaf, (w64 ((w64 (u10 + 1)) + 1))⟩ : S_Block)), (w64 ((w64 ((w64 (u10 + 1)) + 1)) + 1)), (w64 (u11 + 1)), _, h24, (hk.c 0 rfl (hk.c 1 rfl (hk.c 5 rfl hk.k))), (hs.pick [(1, 1)] rfl), o50, lh51⟩
    ·have hk := hk.lit 9 c27 rfl
     refine cnd_false hk rfl rfl ?_
     refine wp_exit ?_
     obtain rfl := Option.some.inj H
     show R20 _ _
     rw [hR20]
     exact ⟨u6, u10, _, h24.symm, (hk.c 0 rfl (hk.c 1 rfl hk.k)), (hs.pick [(1, 1)] rfl), o8, lh9⟩
  ·intro a w hR0
   rw [hR20] at hR0
   obtain ⟨u12, u16, k13, rfl, hk, hs, o14, lh15⟩ := hR0
   have H := HL19
   try dsimp only at H
   refine hK2 _ _ ?_
   apply wp_seq_k; intro K53 hK53
   apply wp_region_lit
   refine sm _ rfl hk rfl rfl rfl fun a hk => ?_
   refine sa _ rfl hk rfl rfl rfl fun a hk => ?_
   show wpList _ _ _ [] _ _
   refine wpList_nil ?_
   refine hK53 _ _ ?_
   refine wp_ret ?_
   obtain rfl := Option.some.inj H
   exact fin hk _ [(.int .i64 u16)] rfl ⟨rfl, trivial⟩ ⟨_, rfl, ⟨o14, lh15⟩, (hs.pick [(0, 1)] rfl).dnil⟩

noncomputable def laws_markBlockSS.s0 (l0 : List (List S_Block)) (u6 : List (List S_Block)) (u10 : Int) (u11 : Int) : Option (((List (List S_Block)) × Int × Int) ⊕ Ex ((List (List S_Block)) × Int) (Int × (List (List S_Block)))) :=
  (bif (decide (u11 < (l0.length : Int))) then (if 0 ≤ u11 ∧ u11 < (l0.length : Int) then ((laws_markBlockS.f (u6.getD u11.toNat []) u10).bind fun y41 => (some (.inl ((u6.set u11.toNat y41.2), y41.1, (w64 (u11 + 1)))))) else none) else (some (.inr (.out (u6, u10)))))
noncomputable def laws_markBlockSS.f (l0 : List (List S_Block)) (x1 : Int) : Option (Int × (List (List S_Block))) :=
  ((loopO (fun s => laws_markBlockSS.s0 l0 s.1 s.2.1 s.2.2) (l0, x1, 0)).bind fun o => match o with | .out (u12, u16) => (some (u16, u12)) | .ret r => (some r))
set_option maxRecDepth 100000 in
set_option maxHeartbeats 0 in
theorem laws_markBlockSS_t (w0 : World) (A0_ : Option Addr) (p0_ : Nat) (l0 : List (List S_Block)) (k0_ : Chunk) (v0_ : Own (Lay.sl L_Block 81) 26 A0_ p0_ l0 k0_) (x1 : Int) (hs0 : Sat (blks [(1, k0_)]) w0 w0 [] [(1, k0_)]) (r : Int × (List (List S_Block))) (H : laws_markBlockSS.f l0 x1 = some r) :
    Calls Try.prog 144 #[.slice A0_ l0.length p0_, .int .i64 x1] w0 (Ret (fun v w => ∃ (k0 : Chunk), v = .int .i64 r.1 ∧ (Own (Lay.sl L_Block 81) 26 A0_ p0_ r.2 k0 ∧ r.2.length = l0.length) ∧ Sat (blks [(1, k0_)]) w0 w [] [(0, k0)])) := by
  have hs := hs0
  unfold laws_markBlockSS.f at H
  refine enter Try.func144 rfl Try.ntmps144 rfl fun a hk => ?_
  apply wp_seq_k; intro K1 hK1
  apply wp_region_lit
  refine sa _ rfl hk rfl rfl rfl fun a hk => ?_
  show wpList _ _ _ [] _ _
  refine wpList_nil ?_
  refine hK1 _ _ ?_
  apply wp_seq_k; intro K2 hK2
  apply wp_seq_k; intro K3 hK3
  apply wp_region_lit
  refine sa _ rfl hk rfl rfl rfl fun a hk => ?_
  show wpList _ _ _ [] _ _
  refine wpList_nil ?_
  refine hK3 _ _ ?_
  obtain ⟨o17, h18, HL19⟩ := bind_some H
  clear H
  obtain ⟨R20, hR20⟩ : ∃ R : Act → World → Prop, R = fun a w => ∃ (u12 : List (List S_Block)) (u16 : Int) (k13 : Chunk), o17 = .out (u12, u16) ∧ Kn [(0, (.slice A0_ l0.length p0_)), (1, (.int .i64 u16))] 19 a ∧ Sat (blks [(1, k0_)]) w0 w [] [(1, k13)] ∧ Own (Lay.sl L_Block 81) 26 A0_ p0_ u12 k13 ∧ u12.length = l0.length := ⟨_, rfl⟩
  refine wp_cutq R20 ?_ ?_
  ·refine wp_block ?_
   obtain ⟨fu22, h18⟩ := loopO_some h18
   obtain ⟨I21, hI21⟩ : ∃ I : Nat → Act → World → Prop, I = fun fu a w => ∃ (u6 : List (List S_Block)) (u10 : Int) (u11 : Int) (k7 : Chunk), loopN (fun s => laws_markBlockSS.s0 l0 s.1 s.2.1 s.2.2) fu (u6, u10, u11) = some o17 ∧ Kn [(0, (.slice A0_ l0.length p0_)), (1, (.int .i64 u10)), (5, (.int .i64 u11))] 19 a ∧ Sat (blks [(1, k0_)]) w0 w [] [(1, k7)] ∧ Own (Lay.sl L_Block 81) 26 A0_ p0_ u6 k7 ∧ u6.length = l0.length := ⟨_, rfl⟩
   refine wp_loop_ghost I21 fu22 ?_ ?_
   ·rw [hI21]
    exact ⟨l0, x1, 0, _, h18, (hk.c 0 rfl (hk.c 1 rfl (hk.c 5 rfl hk.k))), (hs.pick [(1, 1)] rfl), v0_, rfl⟩
   ·clear h18 hk hs
    intro fu22 a w hI0
    rw [hI21] at hI0
    obtain ⟨u6, u10, u11, k7, hi, hk, hs, o8, lh9⟩ := hI0
    obtain ⟨x23, H, h24⟩ := loop_round hi
    try dsimp only at H
    unfold laws_markBlockSS.s0 at H
    apply wp_seq_k; intro K25 hK25
    apply wp_seq_k; intro K26 hK26
    apply wp_region_lit
    refine sm _ rfl hk rfl rfl rfl fun a hk => ?_
    refine sm _ rfl hk rfl rfl rfl fun a hk => ?_
    refine sle rfl hk rfl rfl rfl un49 fun a hk => ?_
    refine sv (.bool (decide (u11 < (l0.length : Int)))) hk rfl rfl rfl fun a hk => ?_
    show wpList _ _ _ [] _ _
    refine wpList_nil ?_
    refine hK26 _ _ ?_
    rcases cond_some H with ⟨c27, H⟩ | ⟨c27, H⟩
    ·have hk := hk.lit 9 c27 rfl
     refine cnd_true hk rfl rfl ?_
     refine wp_skip ?_
     refine hK25 _ _ ?_
     apply wp_seq_k; intro K28 hK28
     refine wp_block ?_
     apply wp_region_lit
     refine sm _ rfl hk rfl rfl rfl fun a hk => ?_
     refine sm _ rfl hk rfl rfl rfl fun a hk => ?_
     rcases ite_some H with ⟨c29, H⟩ | ⟨_, H⟩
     rotate_left
     ·cases H
     obtain ⟨b30, q31, hAc29⟩ := (o8.view).some_ u11 c29.1 (by rw [lh9]; exact c29.2)
     refine si rfl hk rfl rfl rfl rfl un49 sz26 c29.1 c29.2 hAc29 fun a hk => ?_
     obtain ⟨_, ⟨_, rfl, A33, p34, rfl, v35⟩, e32⟩ := (o8.view).at_ [] u11 c29.1 (by rw [lh9]; exact c29.2)
     refine sl (v := (.slice A33 (u6.getD u11.toNat []).length p34)) rfl hk rfl rfl rfl ag26 ((e32 0 _ rfl).cell (hs.hasG (k := 1) rfl)) fun a hk => ?_
     refine sm _ rfl hk rfl rfl rfl fun a hk => ?_
     obtain ⟨k36, k37, o38, hs, hp39⟩ := Own.elemS 3 0 [] (fun ys40 => ys40) hs (k := 1) rfl o8 c29.1 (by rw [lh9]; exact c29.2) (e32 0 _ rfl) (fun es d h => el_sl h)
     obtain ⟨y41, h42, H⟩ := bind_some H
     refine sc rfl en35 hk rfl rfl rfl (laws_markBlockS_t _ A33 p34 (u6.getD u11.toNat []) _ o38 u10 ((hs.hand [(1, 3)] rfl).dpick [] rfl) _ h42) ?_
     rintro _ w ⟨k43, rfl, ⟨o44, lh45⟩, hG⟩ a hk
     have hs := hs.back [(1, 3)] rfl hG [3] rfl
     obtain ⟨k46, hp47, o48⟩ := hp39 y41.2 k43 lh45 o44
     have hs := hs.putb 1 3 rfl rfl hp47
     have lh49 : (u6.set u11.toNat y41.2).length = l0.length := by rw [List.length_set]; exact lh9
     refine sa _ rfl hk rfl rfl rfl fun a hk => ?_
     show wpList _ _ _ [] _ _
     refine wpList_nil ?_
     refine hK28 _ _ ?_
     apply wp_region_lit
     refine sm _ rfl hk rfl rfl rfl fun a hk => ?_
     refine sv (.int .i64 (w64 (u11 + 1))) hk rfl rfl rfl fun a hk => ?_
     refine sa _ rfl hk rfl rfl rfl fun a hk => ?_
     show wpList _ _ _ [] _ _
     refine wpList_nil ?_
     obtain rfl := Option.some.inj H
     obtain ⟨m50, hmm50, h24⟩ := h24
     show ∃ n', n' < _ ∧ I21 n' _ _
     refine ⟨m50, hmm50, ?_⟩
     rw [hI21]
     exact ⟨(u6.set u11.toNat y41.2), y41.1, (w64 (u11 + 1)), _, h24, (hk.c 0 rfl (hk.c 1 rfl (hk.c 5 rfl hk.k))), (hs.pick [(1, 1)] rfl), o48, lh49⟩
    ·have hk := hk.lit 9 c27 rfl
     refine cnd_false hk rfl rfl ?_
     refine wp_exit ?_
     obtain rfl := Option.some.inj H
     show R20 _ _
     rw [hR20]
     exact ⟨u6, u10, _, h24.symm, (hk.c 0 rfl (hk.c 1 rfl hk.k)), (hs.pick [(1, 1)] rfl), o8, lh9⟩
  ·intro a w hR0
   rw [hR20] at hR0
   obtain ⟨u12, u16, k13, rfl, hk, hs, o14, lh15⟩ := hR0
   have H := HL19
   try dsimp only at H
   refine hK2 _ _ ?_
   apply wp_seq_k; intro K51 hK51
   apply wp_region_lit
   refine sm _ rfl hk rfl rfl rfl fun a hk => ?_
   refine sa _ rfl hk rfl rfl rfl fun a hk => ?_
   show wpList _ _ _ [] _ _
   refine wpList_nil ?_
   refine hK51 _ _ ?_
   refine wp_ret ?_
   obtain rfl := Option.some.inj H
   exact fin hk _ [(.int .i64 u16)] rfl ⟨rfl, trivial⟩ ⟨_, rfl, ⟨o14, lh15⟩, (hs.pick [(0, 1)] rfl).dnil⟩

noncomputable def laws_markOram.f (x0 : S_Oram) (x1 : Int) : Option (Int × (List Int) × (List S_Block) × (List (List S_Block))) :=
  ((laws_markIntS.f x0.Pos x1).bind fun y4 => ((laws_markBlockS.f x0.Stash y4.1).bind fun y11 => ((laws_markBlockSS.f x0.Buckets y11.1).bind fun y18 => (some (y18.1, y4.2, y11.2, y18.2)))))
set_option maxRecDepth 100000 in
set_option maxHeartbeats 0 in
theorem laws_markOram_t (w0 : World) (x0 : S_Oram) (A0_0 : Option Addr) (p0_0 : Nat) (k0_0 : Chunk) (v0_0 : Own (Lay.int .i64) 3 A0_0 p0_0 x0.Pos k0_0) (A0_1 : Option Addr) (p0_1 : Nat) (k0_1 : Chunk) (v0_1 : Own L_Block 81 A0_1 p0_1 x0.Stash k0_1) (A0_2 : Option Addr) (p0_2 : Nat) (k0_2 : Chunk) (v0_2 : Own (Lay.sl L_Block 81) 26 A0_2 p0_2 x0.Buckets k0_2) (x1 : Int) (hs0 : Sat (blks [(1, k0_0), (2, k0_1), (3, k0_2)]) w0 w0 [] [(1, k0_0), (2, k0_1), (3, k0_2)]) (r : Int × (List Int) × (List S_Block) × (List (List S_Block))) (H : laws_markOram.f x0 x1 = some r) :
    Calls Try.prog 95 #[.agg #[.slice A0_0 x0.Pos.length p0_0, .slice A0_1 x0.Stash.length p0_1, .slice A0_2 x0.Buckets.length p0_2], .int .i64 x1] w0 (Ret (fun v w => ∃ (k0 : Chunk), ∃ (k1 : Chunk), ∃ (k2 : Chunk), v = .int .i64 r.1 ∧ (Own (Lay.int .i64) 3 A0_0 p0_0 r.2.1 k0 ∧ r.2.1.length = x0.Pos.length) ∧ (Own L_Block 81 A0_1 p0_1 r.2.2.1 k1 ∧ r.2.2.1.length = x0.Stash.length) ∧ (Own (Lay.sl L_Block 81) 26 A0_2 p0_2 r.2.2.2 k2 ∧ r.2.2.2.length = x0.Buckets.length) ∧ Sat (blks [(1, k0_0), (2, k0_1), (3, k0_2)]) w0 w [] [(0, k0), (1, k1), (2, k2)])) := by
  have hs := hs0
  unfold laws_markOram.f at H
  refine enter Try.func95 rfl Try.ntmps95 rfl fun a hk => ?_
  apply wp_seq_k; intro K1 hK1
  apply wp_region_lit
  refine sbx 4 hs rfl hk rfl rfl rfl rfl fun b2 w a hk hs => ?_
  refine sa _ rfl hk rfl rfl rfl fun a hk => ?_
  show wpList _ _ _ [] _ _
  refine wpList_nil ?_
  refine hK1 _ _ ?_
  apply wp_seq_k; intro K3 hK3
  apply wp_region_lit
  refine sf ⟨b2, 0, none⟩ rfl hk rfl rfl rfl fd51_0 rfl fun a hk => ?_
  refine sl rfl hk rfl rfl rfl ag31 (box_cell hs (k := 4) rfl rfl) fun a hk => ?_
  refine sm _ rfl hk rfl rfl rfl fun a hk => ?_
  obtain ⟨y4, h5, H⟩ := bind_some H
  refine sc rfl en40 hk rfl rfl rfl (laws_markIntS_t _ A0_0 p0_0 x0.Pos _ v0_0 x1 ((hs.hand [(1, 1)] rfl).dpick [] rfl) _ h5) ?_
  rintro _ w ⟨k6, rfl, ⟨o7, lh8⟩, hG⟩ a hk
  have hs := hs.back [(1, 1)] rfl hG [1] rfl
  have lh9 : y4.2.length = x0.Pos.length := lh8
  refine sa _ rfl hk rfl rfl rfl fun a hk => ?_
  show wpList _ _ _ [] _ _
  refine wpList_nil ?_
  refine hK3 _ _ ?_
  apply wp_seq_k; intro K10 hK10
  apply wp_region_lit
  refine sf ⟨b2, 1, none⟩ rfl hk rfl rfl rfl fd51_1 rfl fun a hk => ?_
  refine sl rfl hk rfl rfl rfl ag26 (box_cell hs (k := 4) rfl rfl) fun a hk => ?_
  refine sm _ rfl hk rfl rfl rfl fun a hk => ?_
  obtain ⟨y11, h12, H⟩ := bind_some H
  refine sc rfl en35 hk rfl rfl rfl (laws_markBlockS_t _ A0_1 p0_1 x0.Stash _ v0_1 y4.1 ((hs.hand [(1, 2)] rfl).dpick [] rfl) _ h12) ?_
  rintro _ w ⟨k13, rfl, ⟨o14, lh15⟩, hG⟩ a hk
  have hs := hs.back [(1, 2)] rfl hG [2] rfl
  have lh16 : y11.2.length = x0.Stash.length := lh15
  refine sa _ rfl hk rfl rfl rfl fun a hk => ?_
  show wpList _ _ _ [] _ _
  refine wpList_nil ?_
  refine hK10 _ _ ?_
  apply wp_seq_k; intro K17 hK17
  apply wp_region_lit
  refine sf ⟨b2, 2, none⟩ rfl hk rfl rfl rfl fd51_2 rfl fun a hk => ?_
  refine sl rfl hk rfl rfl rfl ag49 (box_cell hs (k := 4) rfl rfl) fun a hk => ?_
  refine sm _ rfl hk rfl rfl rfl fun a hk => ?_
  obtain ⟨y18, h19, H⟩ := bind_some H
  refine sc rfl en144 hk rfl rfl rfl (laws_markBlockSS_t _ A0_2 p0_2 x0.Buckets _ v0_2 y11.1 ((hs.hand [(1, 3)] rfl).dpick [] rfl) _ h19) ?_
  rintro _ w ⟨k20, rfl, ⟨o21, lh22⟩, hG⟩ a hk
  have hs := hs.back [(1, 3)] rfl hG [3] rfl
  have lh23 : y18.2.length = x0.Buckets.length := lh22
  refine sa _ rfl hk rfl rfl rfl fun a hk => ?_
  show wpList _ _ _ [] _ _
  refine wpList_nil ?_
  refine hK17 _ _ ?_
  apply wp_seq_k; intro K24 hK24
  apply wp_region_lit
  refine sm _ rfl hk rfl rfl rfl fun a hk => ?_
  refine sa _ rfl hk rfl rfl rfl fun a hk => ?_
  show wpList _ _ _ [] _ _
  refine wpList_nil ?_
  refine hK24 _ _ ?_
  refine wp_ret ?_
  obtain rfl := Option.some.inj H
  exact fin hk _ [(.int .i64 y18.1)] rfl ⟨rfl, trivial⟩ ⟨_, _, _, rfl, ⟨o7, lh9⟩, ⟨o14, lh16⟩, ⟨o21, lh23⟩, (hs.pick [(0, 1), (1, 2), (2, 3)] rfl).dnil⟩

noncomputable def laws_markEnc.f (x0 : S_Enc) (x1 : Int) : Option (Int × (List Int) × (List Int) × (List S_Block) × (List (List S_Block))) :=
  ((laws_markIntS.f x0.Keys x1).bind fun y4 => ((laws_markOram.f x0.Oram y4.1).bind fun y11 => (some (y11.1, y4.2, y11.2.1, y11.2.2.1, y11.2.2.2))))
set_option maxRecDepth 100000 in
set_option maxHeartbeats 0 in
theorem laws_markEnc_t (w0 : World) (x0 : S_Enc) (A0_0 : Option Addr) (p0_0 : Nat) (k0_0 : Chunk) (v0_0 : Own (Lay.int .i64) 3 A0_0 p0_0 x0.Keys k0_0) (A0_1 : Option Addr) (p0_1 : Nat) (k0_1 : Chunk) (v0_1 : Own (Lay.int .i64) 3 A0_1 p0_1 x0.Oram.Pos k0_1) (A0_2 : Option Addr) (p0_2 : Nat) (k0_2 : Chunk) (v0_2 : Own L_Block 81 A0_2 p0_2 x0.Oram.Stash k0_2) (A0_3 : Option Addr) (p0_3 : Nat) (k0_3 : Chunk) (v0_3 : Own (Lay.sl L_Block 81) 26 A0_3 p0_3 x0.Oram.Buckets k0_3) (x1 : Int) (hs0 : Sat (blks [(1, k0_0), (2, k0_1), (3, k0_2), (4, k0_3)]) w0 w0 [] [(1, k0_0), (2, k0_1), (3, k0_2), (4, k0_3)]) (r : Int × (List Int) × (List Int) × (List S_Block) × (List (List S_Block))) (H : laws_markEnc.f x0 x1 = some r) :
    Calls Try.prog 45 #[.agg #[.slice A0_0 x0.Keys.length p0_0, .slice A0_1 x0.Oram.Pos.length p0_1, .slice A0_2 x0.Oram.Stash.length p0_2, .slice A0_3 x0.Oram.Buckets.length p0_3], .int .i64 x1] w0 (Ret (fun v w => ∃ (k0 : Chunk), ∃ (k1 : Chunk), ∃ (k2 : Chunk), ∃ (k3 : Chunk), v = .int .i64 r.1 ∧ (Own (Lay.int .i64) 3 A0_0 p0_0 r.2.1 k0 ∧ r.2.1.length = x0.Keys.length) ∧ (Own (Lay.int .i64) 3 A0_1 p0_1 r.2.2.1 k1 ∧ r.2.2.1.length = x0.Oram.Pos.length) ∧ (Own L_Block 81 A0_2 p0_2 r.2.2.2.1 k2 ∧ r.2.2.2.1.length = x0.Oram.Stash.length) ∧ (Own (Lay.sl L_Block 81) 26 A0_3 p0_3 r.2.2.2.2 k3 ∧ r.2.2.2.2.length = x0.Oram.Buckets.length) ∧ Sat (blks [(1, k0_0), (2, k0_1), (3, k0_2), (4, k0_3)]) w0 w [] [(0, k0), (1, k1), (2, k2), (3, k3)])) := by
  have hs := hs0
  unfold laws_markEnc.f at H
  refine enter Try.func45 rfl Try.ntmps45 rfl fun a hk => ?_
  apply wp_seq_k; intro K1 hK1
  apply wp_region_lit
  refine sbx 5 hs rfl hk rfl rfl rfl rfl fun b2 w a hk hs => ?_
  refine sa _ rfl hk rfl rfl rfl fun a hk => ?_
  show wpList _ _ _ [] _ _
  refine wpList_nil ?_
  refine hK1 _ _ ?_
  apply wp_seq_k; intro K3 hK3
  apply wp_region_lit
  refine sf ⟨b2, 0, none⟩ rfl hk rfl rfl rfl fd53_0 rfl fun a hk => ?_
  refine sl rfl hk rfl rfl rfl ag31 (box_cell hs (k := 5) rfl rfl) fun a hk => ?_
  refine sm _ rfl hk rfl rfl rfl fun a hk => ?_
  obtain ⟨y4, h5, H⟩ := bind_some H
  refine sc rfl en40 hk rfl rfl rfl (laws_markIntS_t _ A0_0 p0_0 x0.Keys _ v0_0 x1 ((hs.hand [(1, 1)] rfl).dpick [] rfl) _ h5) ?_
  rintro _ w ⟨k6, rfl, ⟨o7, lh8⟩, hG⟩ a hk
  have hs := hs.back [(1, 1)] rfl hG [1] rfl
  have lh9 : y4.2.length = x0.Keys.length := lh8
  refine sa _ rfl hk rfl rfl rfl fun a hk => ?_
  show wpList _ _ _ [] _ _
  refine wpList_nil ?_
  refine hK3 _ _ ?_
  apply wp_seq_k; intro K10 hK10
  apply wp_region_lit
  refine sf ⟨b2, 1, none⟩ rfl hk rfl rfl rfl fd53_1 rfl fun a hk => ?_
  refine sln [.slice A0_1 x0.Oram.Pos.length p0_1, .slice A0_2 x0.Oram.Stash.length p0_2, .slice A0_3 x0.Oram.Buckets.length p0_3] rfl hk rfl rfl rfl ag51 sz51 (box_part hs (k := 5) rfl rfl) fun a hk => ?_
  refine sm _ rfl hk rfl rfl rfl fun a hk => ?_
  obtain ⟨y11, h12, H⟩ := bind_some H
  refine sc rfl en95 hk rfl rfl rfl (laws_markOram_t _ x0.Oram A0_1 p0_1 _ v0_1 A0_2 p0_2 _ v0_2 A0_3 p0_3 _ v0_3 y4.1 ((hs.hand [(1, 2), (2, 3), (3, 4)] rfl).dpick [] rfl) _ h12) ?_
  rintro _ w ⟨k13, k16, k19, rfl, ⟨o14, lh15⟩, ⟨o17, lh18⟩, ⟨o20, lh21⟩, hG⟩ a hk
  have hs := hs.back [(1, 2), (2, 3), (3, 4)] rfl hG [2, 3, 4] rfl
  have lh22 : y11.2.1.length = x0.Oram.Pos.length := lh15
  have lh23 : y11.2.2.1.length = x0.Oram.Stash.length := lh18
  have lh24 : y11.2.2.2.length = x0.Oram.Buckets.length := lh21
  refine sa _ rfl hk rfl rfl rfl fun a hk => ?_
  show wpList _ _ _ [] _ _
  refine wpList_nil ?_
  refine hK10 _ _ ?_
  apply wp_seq_k; intro K25 hK25
  apply wp_region_lit
  refine sm _ rfl hk rfl rfl rfl fun a hk => ?_
  refine sa _ rfl hk rfl rfl rfl fun a hk => ?_
  show wpList _ _ _ [] _ _
  refine wpList_nil ?_
  refine hK25 _ _ ?_
  refine wp_ret ?_
  obtain rfl := Option.some.inj H
  exact fin hk _ [(.int .i64 y11.1)] rfl ⟨rfl, trivial⟩ ⟨_, _, _, _, rfl, ⟨o7, lh9⟩, ⟨o14, lh22⟩, ⟨o17, lh23⟩, ⟨o20, lh24⟩, (hs.pick [(0, 1), (1, 2), (2, 3), (3, 4)] rfl).dnil⟩

noncomputable def laws_markResultS.s0 (l0 : List S_Result) (u6 : List S_Result) (u10 : Int) (u11 : Int) : Option (((List S_Result) × Int × Int) ⊕ Ex ((List S_Result) × Int) (Int × (List S_Result))) :=
  (bif (decide (u11 < (l0.length : Int))) then (if 0 ≤ u11 ∧ u11 < (l0.length : Int) then (if 0 ≤ u11 ∧ u11 < (l0.length : Int) then ((laws_markIntS.f (((u6.set u11.toNat (⟨u10, (u6.getD u11.toNat z_Result).Values⟩ : S_Result)).getD u11.toNat z_Result).Values) (w64 (u10 + 1))).bind fun y49 => (some (.inl (((u6.set u11.toNat (⟨u10, (u6.getD u11.toNat z_Result).Values⟩ : S_Result)).set u11.toNat (⟨((u6.set u11.toNat (⟨u10, (u6.getD u11.toNat z_Result).Values⟩ : S_Result)).getD u11.toNat z_Result).Code, y49.2⟩ : S_Result)), y49.1, (w64 (u11 + 1)))))) else none) else none) else (some (.inr (.out (u6, u10)))))
noncomputable def laws_markResultS.f (l0 : List S_Result) (x1 : Int) : Option (Int × (List S_Result)) :=
  ((loopO (fun s => laws_markResultS.s0 l0 s.1 s.2.1 s.2.2) (l0, x1, 0)).bind fun o => match o with | .out (u12, u16) => (some (u16, u12)) | .ret r => (some r))
set_option maxRecDepth 100000 in
set_option maxHeartbeats 0 in
theorem laws_markResultS_t (w0 : World) (A0_ : Option Addr) (p0_ : Nat) (l0 : List S_Result) (k0_ : Chunk) (v0_ : Own L_impl_Result 105 A0_ p0_ l0 k0_) (x1 : Int) (hs0 : Sat (blks [(1, k0_)]) w0 w0 [] [(1, k0_)]) (r : Int × (List S_Result)) (H : laws_markResultS.f l0 x1 = some r) :
    Calls Try.prog 46 #[.slice A0_ l0.length p0_, .int .i64 x1] w0 (Ret (fun v w => ∃ (k0 : Chunk), v = .int .i64 r.1 ∧ (Own L_impl_Result 105 A0_ p0_ r.2 k0 ∧ r.2.length = l0.length) ∧ Sat (blks [(1, k0_)]) w0 w [] [(0, k0)])) := by
  have hs := hs0
  unfold laws_markResultS.f at H
  refine enter Try.func46 rfl Try.ntmps46 rfl fun a hk => ?_
  apply wp_seq_k; intro K1 hK1
  apply wp_region_lit
  refine sa _ rfl hk rfl rfl rfl fun a hk => ?_
  show wpList _ _ _ [] _ _
  refine wpList_nil ?_
  refine hK1 _ _ ?_
  apply wp_seq_k; intro K2 hK2
  apply wp_seq_k; intro K3 hK3
  apply wp_region_lit
  refine sa _ rfl hk rfl rfl rfl fun a hk => ?_
  show wpList _ _ _ [] _ _
  refine wpList_nil ?_
  refine hK3 _ _ ?_
  obtain ⟨o17, h18, HL19⟩ := bind_some H
  clear H
  obtain ⟨R20, hR20⟩ : ∃ R : Act → World → Prop, R = fun a w => ∃ (u12 : List S_Result) (u16 : Int) (k13 : Chunk), o17 = .out (u12, u16) ∧ Kn [(0, (.slice A0_ l0.length p0_)), (1, (.int .i64 u16))] 27 a ∧ Sat (blks [(1, k0_)]) w0 w [] [(1, k13)] ∧ Own L_impl_Result 105 A0_ p0_ u12 k13 ∧ u12.length = l0.length := ⟨_, rfl⟩
  refine wp_cutq R20 ?_ ?_
  ·refine wp_block ?_
   obtain ⟨fu22, h18⟩ := loopO_some h18
   obtain ⟨I21, hI21⟩ : ∃ I : Nat → Act → World → Prop, I = fun fu a w => ∃ (u6 : List S_Result) (u10 : Int) (u11 : Int) (k7 : Chunk), loopN (fun s => laws_markResultS.s0 l0 s.1 s.2.1 s.2.2) fu (u6, u10, u11) = some o17 ∧ Kn [(0, (.slice A0_ l0.length p0_)), (1, (.int .i64 u10)), (5, (.int .i64 u11))] 27 a ∧ Sat (blks [(1, k0_)]) w0 w [] [(1, k7)] ∧ Own L_impl_Result 105 A0_ p0_ u6 k7 ∧ u6.length = l0.length := ⟨_, rfl⟩
   refine wp_loop_ghost I21 fu22 ?_ ?_
   ·rw [hI21]
    exact ⟨l0, x1, 0, _, h18, (hk.c 0 rfl (hk.c 1 rfl (hk.c 5 rfl hk.k))), (hs.pick [(1, 1)] rfl), v0_, rfl⟩
   ·clear h18 hk hs
    intro fu22 a w hI0
    rw [hI21] at hI0
    obtain ⟨u6, u10, u11, k7, hi, hk, hs, o8, lh9⟩ := hI0
    obtain ⟨x23, H, h24⟩ := loop_round hi
    try dsimp only at H
    unfold laws_markResultS.s0 at H
    apply wp_seq_k; intro K25 hK25
    apply wp_seq_k; intro K26 hK26
    apply wp_region_lit
    refine sm _ rfl hk rfl rfl rfl fun a hk => ?_
    refine sm _ rfl hk rfl rfl rfl fun a hk => ?_
    refine sle rfl hk rfl rfl rfl un55 fun a hk => ?_
    refine sv (.bool (decide (u11 < (l0.length : Int)))) hk rfl rfl rfl fun a hk => ?_
    show wpList _ _ _ [] _ _
    refine wpList_nil ?_
    refine hK26 _ _ ?_
    rcases cond_some H with ⟨c27, H⟩ | ⟨c27, H⟩
    ·have hk := hk.lit 9 c27 rfl
     refine cnd_true hk rfl rfl ?_
     refine wp_skip ?_
     refine hK25 _ _ ?_
     apply wp_seq_k; intro K28 hK28
     refine wp_block ?_
     apply wp_seq_k; intro K29 hK29
     apply wp_region_lit
     refine sm _ rfl hk rfl rfl rfl fun a hk => ?_
     refine sm _ rfl hk rfl rfl rfl fun a hk => ?_
     refine sm _ rfl hk rfl rfl rfl fun a hk => ?_
     rcases ite_some H with ⟨c30, H⟩ | ⟨_, H⟩
     rotate_left
     ·cases H
     obtain ⟨b31, q32, hAc30⟩ := (o8.view).some_ u11 c30.1 (by rw [lh9]; exact c30.2)
     refine si rfl hk rfl rfl rfl rfl un55 sz105 c30.1 c30.2 hAc30 fun a hk => ?_
     refine sf (padd A0_ (u11.toNat * 2 + 0)) rfl hk rfl rfl rfl fd105_0 (padd_add _ _ _) fun a hk => ?_
     refine so (j := 0) 1 z_Result (⟨u10, (u6.getD u11.toNat z_Result).Values⟩ : S_Result) hs rfl o8 c30.1 (by rw [lh9]; exact c30.2) rfl hk rfl rfl rfl rfl rfl sz3 (by simp [Value.cells, Value.oneCell']) (Nat.le_of_ble_eq_true rfl) (fun es d h => by obtain ⟨a, b, d1, e1, rfl, rfl, ⟨rfl, rfl⟩, h2⟩ := h; exact ⟨_, b, [], e1, rfl, rfl, ⟨rfl, rfl⟩, h2⟩) fun k33 w a hk o34 hs => ?_
     have lh35 : (u6.set u11.toNat (⟨u10, (u6.getD u11.toNat z_Result).Values⟩ : S_Result)).length = l0.length := by rw [List.length_set]; exact lh9
     show wpList _ _ _ [] _ _
     refine wpList_nil ?_
     refine hK29 _ _ ?_
     apply wp_seq_k; intro K36 hK36
     apply wp_region_lit
     refine sm _ rfl hk rfl rfl rfl fun a hk => ?_
     refine sv (.int .i64 (w64 (u10 + 1))) hk rfl rfl rfl fun a hk => ?_
     refine sa _ rfl hk rfl rfl rfl fun a hk => ?_
     show wpList _ _ _ [] _ _
     refine wpList_nil ?_
     refine hK36 _ _ ?_
     apply wp_region_lit
     refine sm _ rfl hk rfl rfl rfl fun a hk => ?_
     refine sm _ rfl hk rfl rfl rfl fun a hk => ?_
     rcases ite_some H with ⟨c37, H⟩ | ⟨_, H⟩
     rotate_left
     ·cases H
     obtain ⟨b38, q39, hAc37⟩ := (o34.view).some_ u11 c37.1 (by rw [lh35]; exact c37.2)
     refine si rfl hk rfl rfl rfl rfl un55 sz105 c37.1 c37.2 hAc37 fun a hk => ?_
     refine sf (padd A0_ (u11.toNat * 2 + 1)) rfl hk rfl rfl rfl fd105_1 (padd_add _ _ _) fun a hk => ?_
     obtain ⟨_, ⟨_, _, rfl, rfl, ⟨_, rfl, A41, p42, rfl, v43⟩⟩, e40⟩ := (o34.view).at_ z_Result u11 c37.1 (by rw [lh35]; exact c37.2)
     refine sl (v := (.slice A41 (((u6.set u11.toNat (⟨u10, (u6.getD u11.toNat z_Result).Values⟩ : S_Result)).getD u11.toNat z_Result).Values).length p42)) rfl hk rfl rfl rfl ag31 ((e40 1 _ rfl).cell (hs.hasG (k := 1) rfl)) fun a hk => ?_
     refine sm _ rfl hk rfl rfl rfl fun a hk => ?_
     obtain ⟨k44, k45, o46, hs, hp47⟩ := Own.elemS 3 1 z_Result (fun ys48 => (⟨((u6.set u11.toNat (⟨u10, (u6.getD u11.toNat z_Result).Values⟩ : S_Result)).getD u11.toNat z_Result).Code, ys48⟩ : S_Result)) hs (k := 1) rfl o34 c37.1 (by rw [lh35]; exact c37.2) (e40 1 _ rfl) (fun es d h => el_pair 1 rfl (fun _ _ _ h => h.2) h)
     obtain ⟨y49, h50, H⟩ := bind_some H
     refine sc rfl en40 hk rfl rfl rfl (laws_markIntS_t _ A41 p42 (((u6.set u11.toNat (⟨u10, (u6.getD u11.toNat z_Result).Values⟩ : S_Result)).getD u11.toNat z_Result).Values) _ o46 (w64 (u10 + 1)) ((hs.hand [(1, 3)] rfl).dpick [] rfl) _ h50) ?_
     rintro _ w ⟨k51, rfl, ⟨o52, lh53⟩, hG⟩ a hk
     have hs := hs.back [(1, 3)] rfl hG [3] rfl
     obtain ⟨k54, hp55, o56⟩ := hp47 y49.2 k51 lh53 o52
     have hs := hs.putb 1 3 rfl rfl hp55
     have lh57 : ((u6.set u11.toNat (⟨u10, (u6.getD u11.toNat z_Result).Values⟩ : S_Result)).set u11.toNat (⟨((u6.set u11.toNat (⟨u10, (u6.getD u11.toNat z_Result).Values⟩ : S_Result)).getD u11.toNat z_Result).Code, y49.2⟩ : S_Result)).length = l0.length := by rw [List.length_set]; exact lh35
     refine sa _ rfl hk rfl rfl rfl fun a hk => ?_
     show wpList _ _ _ [] _ _
     refine wpList_nil ?_
     refine hK28 _ _ ?_
     apply wp_region_lit
     refine sm _ rfl hk rfl rfl rfl fun a hk => ?_
     refine sv (.int .i64 (w64 (u11 + 1))) hk rfl rfl rfl fun a hk => ?_
     refine sa _ rfl hk rfl rfl rfl fun a hk => ?_
     show wpList _ _ _ [] _ _
     refine wpList_nil ?_
     obtain rfl := Option.some.inj H
     obtain ⟨m58, hmm58, h24⟩ := h24
     show ∃ n', n' < _ ∧ I21 n' _ _
     refine ⟨m58, hmm58, ?_⟩
     rw [hI21]
     exact ⟨((u6.set u11.toNat (⟨u10, (u6.getD u11.toNat z_Result).Values⟩ : S_Result)).set u11.toNat (⟨((u6.set u11.toNat (⟨u10, (u6.getD u11.toNat z_Result).Values⟩ : S_Result)).getD u11.toNat z_Result).Code, y49.2⟩ : S_Result)), y49.1, (w64 (u11 + 1)), _, h24, (hk.c 0 rfl (hk.c 1 rfl (hk.c 5 rfl hk.k))), (hs.pick [(1, 1)] rfl), o56, lh57⟩
    ·have hk := hk.lit 9 c27 rfl
     refine cnd_false hk rfl rfl ?_
     refine wp_exit ?_
     obtain rfl := Option.some.inj H
     show R20 _ _
     rw [hR20]
     exact ⟨u6, u10, _, h24.symm, (hk.c 0 rfl (hk.c 1 rfl hk.k)), (hs.pick [(1, 1)] rfl), o8, lh9⟩
  ·intro a w hR0
   rw [hR20] at hR0
   obtain ⟨u12, u16, k13, rfl, hk, hs, o14, lh15⟩ := hR0
   have H := HL19
   try dsimp only at H
   refine hK2 _ _ ?_
   apply wp_seq_k; intro K59 hK59
   apply wp_region_lit
   refine sm _ rfl hk rfl rfl rfl fun a hk => ?_
   refine sa _ rfl hk rfl rfl rfl fun a hk => ?_
   show wpList _ _ _ [] _ _
   refine wpList_nil ?_
   refine hK59 _ _ ?_
   refine wp_ret ?_
   obtain rfl := Option.some.inj H
   exact fin hk _ [(.int .i64 u16)] rfl ⟨rfl, trivial⟩ ⟨_, rfl, ⟨o14, lh15⟩, (hs.pick [(0, 1)] rfl).dnil⟩

noncomputable def laws_heldIntS.s0 (l0 : List Int) (u6 : Int) (u7 : Int) : Option ((Int × Int) ⊕ Ex (Int) (Int)) :=
  (bif (decide (u7 < (l0.length : Int))) then (if 0 ≤ u7 ∧ u7 < (l0.length : Int) then (bif ((l0.getD u7.toNat 0) != u6) then (some (.inr (.ret (-1)))) else (some (.inl ((w64 (u6 + 1)), (w64 (u7 + 1)))))) else none) else (some (.inr (.out u6))))
noncomputable def laws_heldIntS.f (l0 : List Int) (x1 : Int) : Option (Int) :=
  ((loopO (fun s => laws_heldIntS.s0 l0 s.1 s.2) (x1, 0)).bind fun o => match o with | .out u8 => (some u8) | .ret r => (some r))
set_option maxRecDepth 100000 in
set_option maxHeartbeats 0 in
theorem laws_heldIntS_t (w0 : World) (A0_ : Option Addr) (p0_ : Nat) (l0 : List Int) (k0_ : Chunk) (v0_ : View (Lay.int .i64) A0_ p0_ l0 k0_) (w0_ : Has w0 k0_) (x1 : Int) (r : Int) (H : laws_heldIntS.f l0 x1 = some r) :
    Calls Try.prog 42 #[.slice A0_ l0.length p0_, .int .i64 x1] w0 (Ret (fun v w => v = .int .i64 r ∧ Sat [] w0 w [] [])) := by
  have hs : Sat [] w0 w0 [(1, k0_)] [] := Sat.init w0 [(1, k0_)] [] (by simp only [List.mem_cons, List.not_mem_nil, or_false]; rintro x (rfl) <;> assumption) (by simp) List.nodup_nil (by simp [blks])
  unfold laws_heldIntS.f at H
  refine enter Try.func42 rfl Try.ntmps42 rfl fun a hk => ?_
  apply wp_seq_k; intro K1 hK1
  apply wp_region_lit
  refine sa _ rfl hk rfl rfl rfl fun a hk => ?_
  show wpList _ _ _ [] _ _
  refine wpList_nil ?_
  refine hK1 _ _ ?_
  apply wp_seq_k; intro K2 hK2
  apply wp_seq_k; intro K3 hK3
  apply wp_region_lit
  refine sa _ rfl hk rfl rfl rfl fun a hk => ?_
  show wpList _ _ _ [] _ _
  refine wpList_nil ?_
  refine hK3 _ _ ?_
  obtain ⟨o9, h10, HL11⟩ := bind_some H
  clear H
  obtain ⟨R12, hR12⟩ : ∃ R : Act → World → Prop, R = fun a w => ∃ (u8 : Int), o9 = .out u8 ∧ Kn [(1, (.int .i64 u8))] 21 a ∧ Sat [] w0 w [(1, k0_)] [] := ⟨_, rfl⟩
  refine wp_cutq R12 ?_ ?_
  ·refine wp_block ?_
   obtain ⟨fu14, h10⟩ := loopO_some h10
   obtain ⟨I13, hI13⟩ : ∃ I : Nat → Act → World → Prop, I = fun fu a w => ∃ (u6 : Int) (u7 : Int), loopN (fun s => laws_heldIntS.s0 l0 s.1 s.2) fu (u6, u7) = some o9 ∧ Kn [(0, (.slice A0_ l0.length p0_)), (1, (.int .i64 u6)), (5, (.int .i64 u7))] 21 a ∧ Sat [] w0 w [(1, k0_)] [] := ⟨_, rfl⟩
   refine wp_loop_ghost I13 fu14 ?_ ?_
   ·rw [hI13]
    exact ⟨x1, 0, h10, (hk.c 0 rfl (hk.c 1 rfl (hk.c 5 rfl hk.k))), (hs.pick [] rfl)⟩
   ·clear h10 hk hs
    intro fu14 a w hI0
    rw [hI13] at hI0
    obtain ⟨u6, u7, hi, hk, hs⟩ := hI0
    obtain ⟨x15, H, h16⟩ := loop_round hi
    try dsimp only at H
    unfold laws_heldIntS.s0 at H
    apply wp_seq_k; intro K17 hK17
    apply wp_seq_k; intro K18 hK18
    apply wp_region_lit
    refine sm _ rfl hk rfl rfl rfl fun a hk => ?_
    refine sm _ rfl hk rfl rfl rfl fun a hk => ?_
    refine sle rfl hk rfl rfl rfl un31 fun a hk => ?_
    refine sv (.bool (decide (u7 < (l0.length : Int)))) hk rfl rfl rfl fun a hk => ?_
    show wpList _ _ _ [] _ _
    refine wpList_nil ?_
    refine hK18 _ _ ?_
    rcases cond_some H with ⟨c19, H⟩ | ⟨c19, H⟩
    ·have hk := hk.lit 9 c19 rfl
     refine cnd_true hk rfl rfl ?_
     refine wp_skip ?_
     refine hK17 _ _ ?_
     apply wp_seq_k; intro K20 hK20
     refine wp_block ?_
     apply wp_seq_k; intro K21 hK21
     apply wp_seq_k; intro K22 hK22
     apply wp_region_lit
     refine sm _ rfl hk rfl rfl rfl fun a hk => ?_
     refine sm _ rfl hk rfl rfl rfl fun a hk => ?_
     rcases ite_some H with ⟨c23, H⟩ | ⟨_, H⟩
     rotate_left
     ·cases H
     obtain ⟨b24, q25, hAc23⟩ := (v0_).some_ u7 c23.1 c23.2
     refine si rfl hk rfl rfl rfl rfl un31 sz3 c23.1 c23.2 hAc23 fun a hk => ?_
     obtain ⟨_, rfl, e26⟩ := (v0_).at_ 0 u7 c23.1 c23.2
     refine sl (v := (.int .i64 (l0.getD u7.toNat 0))) rfl hk rfl rfl rfl ag3 ((e26 0 _ rfl).cell (hs.hasD (k := 1) rfl)) fun a hk => ?_
     refine sm _ rfl hk rfl rfl rfl fun a hk => ?_
     refine sv (.bool ((l0.getD u7.toNat 0) != u6)) hk rfl rfl rfl fun a hk => ?_
     show wpList _ _ _ [] _ _
     refine wpList_nil ?_
     refine hK22 _ _ ?_
     rcases cond_some H with ⟨c27, H⟩ | ⟨c27, H⟩
     ·have hk := hk.lit 17 c27 rfl
      refine cnd_true hk rfl rfl ?_
      apply wp_seq_k; intro K28 hK28
      apply wp_region_lit
      refine sa _ rfl hk rfl rfl rfl fun a hk => ?_
      show wpList _ _ _ [] _ _
      refine wpList_nil ?_
      refine hK28 _ _ ?_
      refine wp_ret ?_
      obtain rfl := Option.some.inj H
      have ho9 := h16
      try dsimp only at ho9
      subst ho9
      have H := HL11
      try dsimp only at H
      obtain rfl := Option.some.inj H
      exact fin hk _ [(.int .i64 (-1))] rfl ⟨rfl, trivial⟩ ⟨rfl, (hs.pick [] rfl).dnil⟩
     ·have hk := hk.lit 17 c27 rfl
      refine cnd_false hk rfl rfl ?_
      refine wp_skip ?_
      refine hK21 _ _ ?_
      apply wp_region_lit
      refine sm _ rfl hk rfl rfl rfl fun a hk => ?_
      refine sv (.int .i64 (w64 (u6 + 1))) hk rfl rfl rfl fun a hk => ?_
      refine sa _ rfl hk rfl rfl rfl fun a hk => ?_
      show wpList _ _ _ [] _ _
      refine wpList_nil ?_
      refine hK20 _ _ ?_
      apply wp_region_lit
      refine sm _ rfl hk rfl rfl rfl fun a hk => ?_
      refine sv (.int .i64 (w64 (u7 + 1))) hk rfl rfl rfl fun a hk => ?_
      refine sa _ rfl hk rfl rfl rfl fun a hk => ?_
      show wpList _ _ _ [] _ _
      refine wpList_nil ?_
      obtain rfl := Option.some.inj H
      obtain ⟨m29, hmm29, h16⟩ := h16
      show ∃ n', n' < _ ∧ I13 n' _ _
      refine ⟨m29, hmm29, ?_⟩
      rw [hI13]
      exact ⟨(w64 (u6 + 1)), (w64 (u7 + 1)), h16, (hk.c 0 rfl (hk.c 1 rfl (hk.c 5 rfl hk.k))), (hs.pick [] rfl)⟩
    ·have hk := hk.lit 9 c19 rfl
     refine cnd_false hk rfl rfl ?_
     refine wp_exit ?_
     obtain rfl := Option.some.inj H
     show R12 _ _
     rw [hR12]
     exact ⟨u6, h16.symm, (hk.c 1 rfl hk.k), (hs.pick [] rfl)⟩
  ·intro a w hR0
   rw [hR12] at hR0
   obtain ⟨u8, rfl, hk, hs⟩ := hR0
   have H := HL11
   try dsimp only at H
   refine hK2 _ _ ?_
   apply wp_seq_k; intro K30 hK30
   apply wp_region_lit
   refine sm _ rfl hk rfl rfl rfl fun a hk => ?_
   refine sa _ rfl hk rfl rfl rfl fun a hk => ?_
   show wpList _ _ _ [] _ _
   refine wpList_nil ?_
   refine hK30 _ _ ?_
   refine wp_ret ?_
   obtain rfl := Option.some.inj H
   exact fin hk _ [(.int .i64 u8)] rfl ⟨rfl, trivial⟩ ⟨rfl, (hs.pick [] rfl).dnil⟩

noncomputable def laws_heldBlockS.s0 (l0 : List S_Block) (u6 : Int) (u7 : Int) : Option ((Int × Int) ⊕ Ex (Int) (Int)) :=
  (bif (decide (u7 < (l0.length : Int))) then (if 0 ≤ u7 ∧ u7 < (l0.length : Int) then (bif (((l0.getD u7.toNat z_Block).Id) != u6) then (some (.inr (.ret (-1)))) else (if 0 ≤ u7 ∧ u7 < (l0.length : Int) then (bif (((l0.getD u7.toNat z_Block).Leaf) != (w64 (u6 + 1))) then (some (.inr (.ret (-1)))) else (if 0 ≤ u7 ∧ u7 < (l0.length : Int) then (bif (((l0.getD u7.toNat z_Block).Value) != (w64 ((w64 (u6 + 1)) + 1))) then (some (.inr (.ret (-1)))) else (some (.inl ((w64 ((w64 ((w64 (u6 + 1)) + 1)) + 1)), (w64 (u7 + 1)))))) else none)) else none)) else none) else (some (.inr (.out u6))))
noncomputable def laws_heldBlockS.f (l0 : List S_Block) (x1 : Int) : Option (Int) :=
  ((loopO (fun s => laws_heldBlockS.s0 l0 s.1 s.2) (x1, 0)).bind fun o => match o with | .out u8 => (some u8) | .ret r => (some r))
set_option maxRecDepth 100000 in
set_option maxHeartbeats 0 in
theorem laws_heldBlockS_t (w0 : World) (A0_ : Option Addr) (p0_ : Nat) (l0 : List S_Block) (k0_ : Chunk) (v0_ : View L_Block A0_ p0_ l0 k0_) (w0_ : Has w0 k0_) (x1 : Int) (r : Int) (H : laws_heldBlockS.f l0 x1 = some r) :
    Calls Try.prog 36 #[.slice A0_ l0.length p0_, .int .i64 x1] w0 (Ret (fun v w => v = .int .i64 r ∧ Sat [] w0 w [] [])) := by
  have hs : Sat [] w0 w0 [(1, k0_)] [] := Sat.init w0 [(1, k0_)] [] (by simp only [List.mem_cons, List.not_mem_nil, or_false]; rintro x (rfl) <;> assumption) (by simp) List.nodup_nil (by simp [blks])
  unfold laws_heldBlockS.f at H
  refine enter Try.func36 rfl Try.ntmps36 rfl fun a hk => ?_
  apply wp_seq_k; intro K1 hK1
  apply wp_region_lit
  refine sa _ rfl hk rfl rfl rfl fun a hk => ?_
  show wpList _ _ _ [] _ _
  refine wpList_nil ?_
  refine hK1 _ _ ?_
  apply wp_seq_k; intro K2 hK2
  apply wp_seq_k; intro K3 hK3
  apply wp_region_lit
  refine sa _ rfl hk rfl rfl rfl fun a hk => ?_
  show wpList _ _ _ [] _ _
  refine wpList_nil ?_
  refine hK3 _ _ ?_
  obtain ⟨o9, h10, HL11⟩ := bind_some H
  clear H
  obtain ⟨R12, hR12⟩ : ∃ R : Act → World → Prop, R = fun a w => ∃ (u8 : Int), o9 = .out u8 ∧ Kn [(1, (.int .i64 u8))] 40 a ∧ Sat [] w0 w [(1, k0_)] [] := ⟨_, rfl⟩
  refine wp_cutq R12 ?_ ?_
  ·refine wp_block ?_
   obtain ⟨fu14, h10⟩ := loopO_some h10
   obtain ⟨I13, hI13⟩ : ∃ I : Nat → Act → World → Prop, I = fun fu a w => ∃ (u6 : Int) (u7 : Int), loopN (fun s => laws_heldBlockS.s0 l0 s.1 s.2) fu (u6, u7) = some o9 ∧ Kn [(0, (.slice A0_ l0.length p0_)), (1, (.int .i64 u6)), (5, (.int .i64 u7))] 40 a ∧ Sat [] w0 w [(1, k0_)] [] := ⟨_, rfl⟩
   refine wp_loop_ghost I13 fu14 ?_ ?_
   ·rw [hI13]
    exact ⟨x1, 0, h10, (hk.c 0 rfl (hk.c 1 rfl (hk.c 5 rfl hk.k))), (hs.pick [] rfl)⟩
   ·clear h10 hk hs
    intro fu14 a w hI0
    rw [hI13] at hI0
    obtain ⟨u6, u7, hi, hk, hs⟩ := hI0
    obtain ⟨x15, H, h16⟩ := loop_round hi
    try dsimp only at H
    unfold laws_heldBlockS.s0 at H
    apply wp_seq_k; intro K17 hK17
    apply wp_seq_k; intro K18 hK18
    apply wp_region_lit
    refine sm _ rfl hk rfl rfl rfl fun a hk => ?_
    refine sm _ rfl hk rfl rfl rfl fun a hk => ?_
    refine sle rfl hk rfl rfl rfl un26 fun a hk => ?_
    refine sv (.bool (decide (u7 < (l0.length : Int)))) hk rfl rfl rfl fun a hk => ?_
    show wpList _ _ _ [] _ _
    refine wpList_nil ?_
    refine hK18 _ _ ?_
    rcases cond_some H with ⟨c19, H⟩ | ⟨c19, H⟩
    ·have hk := hk.lit 9 c19 rfl
     refine cnd_true hk rfl rfl ?_
     refine wp_skip ?_
     refine hK17 _ _ ?_
     apply wp_seq_k; intro K20 hK20
     refine wp_block ?_
     apply wp_seq_k; intro K21 hK21
     apply wp_seq_k; intro K22 hK22
     apply wp_region_lit
     refine sm _ rfl hk rfl rfl rfl fun a hk => ?_
     refine sm _ rfl hk rfl rfl rfl fun a hk => ?_
     rcases ite_some H with ⟨c23, H⟩ | ⟨_, H⟩
     rotate_left
     ·cases H
     obtain ⟨b24, q25, hAc23⟩ := (v0_).some_ u7 c23.1 c23.2
     refine si rfl hk rfl rfl rfl rfl un26 sz81 c23.1 c23.2 hAc23 fun a hk => ?_
     refine sf (padd A0_ (u7.toNat * 3 + 0)) rfl hk rfl rfl rfl fd81_0 (padd_add _ _ _) fun a hk => ?_
     obtain ⟨_, rfl, e26⟩ := (v0_).at_ z_Block u7 c23.1 c23.2
     refine sl (v := (.int .i64 ((l0.getD u7.toNat z_Block).Id))) rfl hk rfl rfl rfl ag3 ((e26 0 _ rfl).cell (hs.hasD (k := 1) rfl)) fun a hk => ?_
     refine sm _ rfl hk rfl rfl rfl fun a hk => ?_
     refine sv (.bool (((l0.getD u7.toNat z_Block).Id) != u6)) hk rfl rfl rfl fun a hk => ?_
     show wpList _ _ _ [] _ _
     refine wpList_nil ?_
     refine hK22 _ _ ?_
     rcases cond_some H with ⟨c27, H⟩ | ⟨c27, H⟩
     ·have hk := hk.lit 18 c27 rfl
      refine cnd_true hk rfl rfl ?_
      apply wp_seq_k; intro K28 hK28
      apply wp_region_lit
      refine sa _ rfl hk rfl rfl rfl fun a hk => ?_
      show wpList _ _ _ [] _ _
      refine wpList_nil ?_
      refine hK28 _ _ ?_
      refine wp_ret ?_
      obtain rfl := Option.some.inj H
      have ho9 := h16
      try dsimp only at ho9
      subst ho9
      have H := HL11
      try dsimp only at H
      obtain rfl := Option.some.inj H
      exact fin hk _ [(.int .i64 (-1))] rfl ⟨rfl, trivial⟩ ⟨rfl, (hs.pick [] rfl).dnil⟩
     ·have hk := hk.lit 18 c27 rfl
      refine cnd_false hk rfl rfl ?_
      refine wp_skip ?_
      refine hK21 _ _ ?_
      apply wp_seq_k; intro K29 hK29
      apply wp_region_lit
      refine sm _ rfl hk rfl rfl rfl fun a hk => ?_
      refine sv (.int .i64 (w64 (u6 + 1))) hk rfl rfl rfl fun a hk => ?_
      refine sa _ rfl hk rfl rfl rfl fun a hk => ?_
      show wpList _ _ _ [] _ _
      refine wpList_nil ?_
      refine hK29 _ _ ?_
      apply wp_seq_k; intro K30 hK30
      apply wp_seq_k; intro K31 hK31
      apply wp_region_lit
      refine sm _ rfl hk rfl rfl rfl fun a hk => ?_
      refine sm _ rfl hk rfl rfl rfl fun a hk => ?_
      rcases ite_some H with ⟨c32, H⟩ | ⟨_, H⟩
      rotate_left
      ·cases H
      obtain ⟨b33, q34, hAc32⟩ := (v0_).some_ u7 c32.1 c32.2
      refine si rfl hk rfl rfl rfl rfl un26 sz81 c32.1 c32.2 hAc32 fun a hk => ?_
      refine sf (padd A0_ (u7.toNat * 3 + 1)) rfl hk rfl rfl rfl fd81_1 (padd_add _ _ _) fun a hk => ?_
      obtain ⟨_, rfl, e35⟩ := (v0_).at_ z_Block u7 c32.1 c32.2
      refine sl (v := (.int .i64 ((l0.getD u7.toNat z_Block).Leaf))) rfl hk rfl rfl rfl ag3 ((e35 1 _ rfl).cell (hs.hasD (k := 1) rfl)) fun a hk => ?_
      refine sm _ rfl hk rfl rfl rfl fun a hk => ?_
      refine sv (.bool (((l0.getD u7.toNat z_Block).Leaf) != (w64 (u6 + 1)))) hk rfl rfl rfl fun a hk => ?_
      show wpList _ _ _ [] _ _
      refine wpList_nil ?_
      refine hK31 _ _ ?_
      rcases cond_some H with ⟨c36, H⟩ | ⟨c36, H⟩
      ·have hk := hk.lit 27 c36 rfl
       refine cnd_true hk rfl rfl ?_
       apply wp_seq_k; intro K37 hK37
       apply wp_region_lit
       refine sa _ rfl hk rfl rfl rfl fun a hk => ?_
       show wpList _ _ _ [] _ _
       refine wpList_nil ?_
       refine hK37 _ _ ?_
       refine wp_ret ?_
       obtain rfl := Option.some.inj H
       have ho9 := h16
       try dsimp only at ho9
       subst ho9
       have H := HL11
       try dsimp only at H
       obtain rfl := Option.some.inj H
       exact fin hk _ [(.int .i64 (-1))] rfl ⟨rfl, trivial⟩ ⟨rfl, (hs.pick [] rfl).dnil⟩
      ·have hk := hk.lit 27 c36 rfl
       refine cnd_false hk rfl rfl ?_
       refine wp_skip ?_
       refine hK30 _ _ ?_
       apply wp_seq_k; intro K38 hK38
       apply wp_region_lit
       refine sm _ rfl hk rfl rfl rfl fun a hk => ?_
       refine sv (.int .i64 (w64 ((w64 (u6 + 1)) + 1))) hk rfl rfl rfl fun a hk => ?_
       refine sa _ rfl hk rfl rfl rfl fun a hk => ?_
       show wpList _ _ _ [] _ _
       refine wpList_nil ?_
       refine hK38 _ _ ?_
       apply wp_seq_k; intro K39 hK39
       apply wp_seq_k; intro K40 hK40
       apply wp_region_lit
       refine sm _ rfl hk rfl rfl rfl fun a hk => ?_
       refine sm _ rfl hk rfl rfl rfl fun a hk => ?_
       rcases ite_some H with ⟨c41, H⟩ | ⟨_, H⟩
       rotate_left
       ·cases H
       obtain ⟨b42, q43, hAc41⟩ := (v0_).some_ u7 c41.1 c41.2
       refine si rfl hk rfl rfl rfl rfl un26 sz81 c41.1 c41.2 hAc41 fun a hk => ?_
       refine sf (padd A0_ (u7.toNat * 3 + 2)) rfl hk rfl rfl rfl fd81_2 (padd_add _ _ _) fun a hk => ?_
       obtain ⟨_, rfl, e44⟩ := (v0_).at_ z_Block u7 c41.1 c41.2
       refine sl (v := (.int .i64 ((l0.getD u7.toNat z_Block).Value))) rfl hk rfl rfl rfl ag3 ((e44 2 _ rfl).cell (hs.hasD (k := 1) rfl)) fun a hk => ?_
       refine sm _ rfl hk rfl rfl rfl fun a hk => ?_
       refine sv (.bool (((l0.getD u7.toNat z_Block).Value) != (w64 ((w64 (u6 + 1)) + 1)))) hk rfl rfl rfl fun a hk => ?_
       show wpList _ _ _ [] _ _
       refine wpList_nil ?_
       refine hK40 _ _ ?_
       rcases cond_some H with ⟨c45, H⟩ | ⟨c45, H⟩
       ·have hk := hk.lit 36 c45 rfl
        refine cnd_true hk rfl rfl ?_
        apply wp_seq_k; intro K46 hK46
        apply wp_region_lit
        refine sa _ rfl hk rfl rfl rfl fun a hk => ?_
        show wpList _ _ _ [] _ _
        refine wpList_nil ?_
        refine hK46 _ _ ?_
        refine wp_ret ?_
        obtain rfl := Option.some.inj H
        have ho9 := h16
        try dsimp only at ho9
        subst ho9
        have H := HL11
        try dsimp only at H
        obtain rfl := Option.some.inj H
        exact fin hk _ [(.int .i64 (-1))] rfl ⟨rfl, trivial⟩ ⟨rfl, (hs.pick [] rfl).dnil⟩
       ·have hk := hk.lit 36 c45 rfl
        refine cnd_false hk rfl rfl ?_
        refine wp_skip ?_
        refine hK39 _ _ ?_
        apply wp_region_lit
        refine sm _ rfl hk rfl rfl rfl fun a hk => ?_
        refine sv (.int .i64 (w64 ((w64 ((w64 (u6 + 1)) + 1)) + 1))) hk rfl rfl rfl fun a hk => ?_
        refine sa _ rfl hk rfl rfl rfl fun a hk => ?_
        show wpList _ _ _ [] _ _
        refine wpList_nil ?_
        refine hK20 _ _ ?_
        apply wp_region_lit
        refine sm _ rfl hk rfl rfl rfl fun a hk => ?_
        refine sv (.int .i64 (w64 (u7 + 1))) hk rfl rfl rfl fun a hk => ?_
        refine sa _ rfl hk rfl rfl rfl fun a hk => ?_
        show wpList _ _ _ [] _ _
        refine wpList_nil ?_
        obtain rfl := Option.some.inj H
        obtain ⟨m47, hmm47, h16⟩ := h16
        show ∃ n', n' < _ ∧ I13 n' _ _
        refine ⟨m47, hmm47, ?_⟩
        rw [hI13]
        exact ⟨(w64 ((w64 ((w64 (u6 + 1)) + 1)) + 1)), (w64 (u7 + 1)), h16, (hk.c 0 rfl (hk.c 1 rfl (hk.c 5 rfl hk.k))), (hs.pick [] rfl)⟩
    ·have hk := hk.lit 9 c19 rfl
     refine cnd_false hk rfl rfl ?_
     refine wp_exit ?_
     obtain rfl := Option.some.inj H
     show R12 _ _
     rw [hR12]
     exact ⟨u6, h16.symm, (hk.c 1 rfl hk.k), (hs.pick [] rfl)⟩
  ·intro a w hR0
   rw [hR12] at hR0
   obtain ⟨u8, rfl, hk, hs⟩ := hR0
   have H := HL11
   try dsimp only at H
   refine hK2 _ _ ?_
   apply wp_seq_k; intro K48 hK48
   apply wp_region_lit
   refine sm _ rfl hk rfl rfl rfl fun a hk => ?_
   refine sa _ rfl hk rfl rfl rfl fun a hk => ?_
   show wpList _ _ _ [] _ _
   refine wpList_nil ?_
   refine hK48 _ _ ?_
   refine wp_ret ?_
   obtain rfl := Option.some.inj H
   exact fin hk _ [(.int .i64 u8)] rfl ⟨rfl, trivial⟩ ⟨rfl, (hs.pick [] rfl).dnil⟩

noncomputable def laws_heldBlockSS.s0 (l0 : List (List S_Block)) (u6 : Int) (u7 : Int) : Option ((Int × Int) ⊕ Ex (Int) (Int)) :=
  (bif (decide (u7 < (l0.length : Int))) then (if 0 ≤ u7 ∧ u7 < (l0.length : Int) then ((laws_heldBlockS.f (l0.getD u7.toNat []) u6).bind fun y29 => (bif (decide (y29 < 0)) then (some (.inr (.ret (-1)))) else (some (.inl (y29, (w64 (u7 + 1))))))) else none) else (some (.inr (.out u6))))
noncomputable def laws_heldBlockSS.f (l0 : List (List S_Block)) (x1 : Int) : Option (Int) :=
  ((loopO (fun s => laws_heldBlockSS.s0 l0 s.1 s.2) (x1, 0)).bind fun o => match o with | .out u8 => (some u8) | .ret r => (some r))
set_option maxRecDepth 100000 in
set_option maxHeartbeats 0 in
theorem laws_heldBlockSS_t (w0 : World) (A0_ : Option Addr) (p0_ : Nat) (l0 : List (List S_Block)) (k0_ : Chunk) (v0_ : View (Lay.sl L_Block 81) A0_ p0_ l0 k0_) (w0_ : Has w0 k0_) (x1 : Int) (r : Int) (H : laws_heldBlockSS.f l0 x1 = some r) :
    Calls Try.prog 145 #[.slice A0_ l0.length p0_, .int .i64 x1] w0 (Ret (fun v w => v = .int .i64 r ∧ Sat [] w0 w [] [])) := by
  have hs : Sat [] w0 w0 [(1, k0_)] [] := Sat.init w0 [(1, k0_)] [] (by simp only [List.mem_cons, List.not_mem_nil, or_false]; rintro x (rfl) <;> assumption) (by simp) List.nodup_nil (by simp [blks])
  unfold laws_heldBlockSS.f at H
  refine enter Try.func145 rfl Try.ntmps145 rfl fun a hk => ?_
  apply wp_seq_k; intro K1 hK1
  apply wp_region_lit
  refine sa _ rfl hk rfl rfl rfl fun a hk => ?_
  show wpList _ _ _ [] _ _
  refine wpList_nil ?_
  refine hK1 _ _ ?_
  apply wp_seq_k; intro K2 hK2
  apply wp_seq_k; intro K3 hK3
  apply wp_region_lit
  refine sa _ rfl hk rfl rfl rfl fun a hk => ?_
  show wpList _ _ _ [] _ _
  refine wpList_nil ?_
  refine hK3 _ _ ?_
  obtain ⟨o9, h10, HL11⟩ := bind_some H
  clear H
  obtain ⟨R12, hR12⟩ : ∃ R : Act → World → Prop, R = fun a w => ∃ (u8 : Int), o9 = .out u8 ∧ Kn [(1, (.int .i64 u8))] 21 a ∧ Sat [] w0 w [(1, k0_)] [] := ⟨_, rfl⟩
  refine wp_cutq R12 ?_ ?_
  ·refine wp_block ?_
   obtain ⟨fu14, h10⟩ := loopO_some h10
   obtain ⟨I13, hI13⟩ : ∃ I : Nat → Act → World → Prop, I = fun fu a w => ∃ (u6 : Int) (u7 : Int), loopN (fun s => laws_heldBlockSS.s0 l0 s.1 s.2) fu (u6, u7) = some o9 ∧ Kn [(0, (.slice A0_ l0.length p0_)), (1, (.int .i64 u6)), (5, (.int .i64 u7))] 21 a ∧ Sat [] w0 w [(1, k0_)] [] := ⟨_, rfl⟩
   refine wp_loop_ghost I13 fu14 ?_ ?_
   ·rw [hI13]
    exact ⟨x1, 0, h10, (hk.c 0 rfl (hk.c 1 rfl (hk.c 5 rfl hk.k))), (hs.pick [] rfl)⟩
   ·clear h10 hk hs
    intro fu14 a w hI0
    rw [hI13] at hI0
    obtain ⟨u6, u7, hi, hk, hs⟩ := hI0
    obtain ⟨x15, H, h16⟩ := loop_round hi
    try dsimp only at H
    unfold laws_heldBlockSS.s0 at H
    apply wp_seq_k; intro K17 hK17
    apply wp_seq_k; intro K18 hK18
    apply wp_region_lit
    refine sm _ rfl hk rfl rfl rfl fun a hk => ?_
    refine sm _ rfl hk rfl rfl rfl fun a hk => ?_
    refine sle rfl hk rfl rfl rfl un49 fun a hk => ?_
    refine sv (.bool (decide (u7 < (l0.length : Int)))) hk rfl rfl rfl fun a hk => ?_
    show wpList _ _ _ [] _ _
    refine wpList_nil ?_
    refine hK18 _ _ ?_
    rcases cond_some H with ⟨c19, H⟩ | ⟨c19, H⟩
    ·have hk := hk.lit 9 c19 rfl
     refine cnd_true hk rfl rfl ?_
     refine wp_skip ?_
     refine hK17 _ _ ?_
     apply wp_seq_k; intro K20 hK20
     refine wp_block ?_
     apply wp_seq_k; intro K21 hK21
     apply wp_region_lit
     refine sm _ rfl hk rfl rfl rfl fun a hk => ?_
     refine sm _ rfl hk rfl rfl rfl fun a hk => ?_
     rcases ite_some H with ⟨c22, H⟩ | ⟨_, H⟩
     rotate_left
     ·cases H
     obtain ⟨b23, q24, hAc22⟩ := (v0_).some_ u7 c22.1 c22.2
     refine si rfl hk rfl rfl rfl rfl un49 sz26 c22.1 c22.2 hAc22 fun a hk => ?_
     obtain ⟨_, ⟨_, rfl, A26, p27, rfl, v28⟩, e25⟩ := (v0_).at_ [] u7 c22.1 c22.2
     refine sl (v := (.slice A26 (l0.getD u7.toNat []).length p27)) rfl hk rfl rfl rfl ag26 ((e25 0 _ rfl).cell (hs.hasD (k := 1) rfl)) fun a hk => ?_
     refine sm _ rfl hk rfl rfl rfl fun a hk => ?_
     obtain ⟨y29, h30, H⟩ := bind_some H
     refine sc rfl en36 hk rfl rfl rfl (laws_heldBlockS_t _ A26 p27 (l0.getD u7.toNat []) _ v28 (hs.hasD (k := 1) rfl) u6 _ h30) ?_
     rintro _ w ⟨rfl, hG⟩ a hk
     have hs := hs.call0 hG
     refine sa _ rfl hk rfl rfl rfl fun a hk => ?_
     show wpList _ _ _ [] _ _
     refine wpList_nil ?_
     refine hK21 _ _ ?_
     apply wp_seq_k; intro K31 hK31
     apply wp_region_lit
     refine sm _ rfl hk rfl rfl rfl fun a hk => ?_
     refine sv (.bool (decide (y29 < 0))) hk rfl rfl rfl fun a hk => ?_
     show wpList _ _ _ [] _ _
     refine wpList_nil ?_
     refine hK31 _ _ ?_
     rcases cond_some H with ⟨c32, H⟩ | ⟨c32, H⟩
     ·have hk := hk.lit 19 c32 rfl
      refine cnd_true hk rfl rfl ?_
      apply wp_seq_k; intro K33 hK33
      apply wp_region_lit
      refine sa _ rfl hk rfl rfl rfl fun a hk => ?_
      show wpList _ _ _ [] _ _
      refine wpList_nil ?_
      refine hK33 _ _ ?_
      refine wp_ret ?_
      obtain rfl := Option.some.inj H
      have ho9 := h16
      try dsimp only at ho9
      subst ho9
      have H := HL11
      try dsimp only at H
      obtain rfl := Option.some.inj H
      exact fin hk _ [(.int .i64 (-1))] rfl ⟨rfl, trivial⟩ ⟨rfl, (hs.pick [] rfl).dnil⟩
     ·have hk := hk.lit 19 c32 rfl
      refine cnd_false hk rfl rfl ?_
      refine wp_skip ?_
      refine hK20 _ _ ?_
      apply wp_region_lit
      refine sm _ rfl hk rfl rfl rfl fun a hk => ?_
      refine sv (.int .i64 (w64 (u7 + 1))) hk rfl rfl rfl fun a hk => ?_
      refine sa _ rfl hk rfl rfl rfl fun a hk => ?_
      show wpList _ _ _ [] _ _
      refine wpList_nil ?_
      obtain rfl := Option.some.inj H
      obtain ⟨m34, hmm34, h16⟩ := h16
      show ∃ n', n' < _ ∧ I13 n' _ _
      refine ⟨m34, hmm34, ?_⟩
      rw [hI13]
      exact ⟨y29, (w64 (u7 + 1)), h16, (hk.c 0 rfl (hk.c 1 rfl (hk.c 5 rfl hk.k))), (hs.pick [] rfl)⟩
    ·have hk := hk.lit 9 c19 rfl
     refine cnd_false hk rfl rfl ?_
     refine wp_exit ?_
     obtain rfl := Option.some.inj H
     show R12 _ _
     rw [hR12]
     exact ⟨u6, h16.symm, (hk.c 1 rfl hk.k), (hs.pick [] rfl)⟩
  ·intro a w hR0
   rw [hR12] at hR0
   obtain ⟨u8, rfl, hk, hs⟩ := hR0
   have H := HL11
   try dsimp only at H
   refine hK2 _ _ ?_
   apply wp_seq_k; intro K35 hK35
   apply wp_region_lit
   refine sm _ rfl hk rfl rfl rfl fun a hk => ?_
   refine sa _ rfl hk rfl rfl rfl fun a hk => ?_
   show wpList _ _ _ [] _ _
   refine wpList_nil ?_
   refine hK35 _ _ ?_
   refine wp_ret ?_
   obtain rfl := Option.some.inj H
   exact fin hk _ [(.int .i64 u8)] rfl ⟨rfl, trivial⟩ ⟨rfl, (hs.pick [] rfl).dnil⟩

noncomputable def laws_heldOram.f (x0 : S_Oram) (x1 : Int) : Option (Int) :=
  ((laws_heldIntS.f x0.Pos x1).bind fun y4 => (bif (decide (y4 < 0)) then (some (-1)) else ((laws_heldBlockS.f x0.Stash y4).bind fun y11 => (bif (decide (y11 < 0)) then (some (-1)) else ((laws_heldBlockSS.f x0.Buckets y11).bind fun y18 => (bif (decide (y18 < 0)) then (some (-1)) else (some y18)))))))
set_option maxRecDepth 100000 in
set_option maxHeartbeats 0 in
theorem laws_heldOram_t (w0 : World) (x0 : S_Oram) (A0_0 : Option Addr) (p0_0 : Nat) (k0_0 : Chunk) (v0_0 : View (Lay.int .i64) A0_0 p0_0 x0.Pos k0_0) (w0_0 : Has w0 k0_0) (A0_1 : Option Addr) (p0_1 : Nat) (k0_1 : Chunk) (v0_1 : View L_Block A0_1 p0_1 x0.Stash k0_1) (w0_1 : Has w0 k0_1) (A0_2 : Option Addr) (p0_2 : Nat) (k0_2 : Chunk) (v0_2 : View (Lay.sl L_Block 81) A0_2 p0_2 x0.Buckets k0_2) (w0_2 : Has w0 k0_2) (x1 : Int) (r : Int) (H : laws_heldOram.f x0 x1 = some r) :
    Calls Try.prog 96 #[.agg #[.slice A0_0 x0.Pos.length p0_0, .slice A0_1 x0.Stash.length p0_1, .slice A0_2 x0.Buckets.length p0_2], .int .i64 x1] w0 (Ret (fun v w => v = .int .i64 r ∧ Sat [] w0 w [] [])) := by
  have hs : Sat [] w0 w0 [(1, k0_0), (2, k0_1), (3, k0_2)] [] := Sat.init w0 [(1, k0_0), (2, k0_1), (3, k0_2)] [] (by simp only [List.mem_cons, List.not_mem_nil, or_false]; rintro x (rfl | rfl | rfl) <;> assumption) (by simp) List.nodup_nil (by simp [blks])
  unfold laws_heldOram.f at H
  refine enter Try.func96 rfl Try.ntmps96 rfl fun a hk => ?_
  apply wp_seq_k; intro K1 hK1
  apply wp_region_lit
  refine sbx 4 hs rfl hk rfl rfl rfl rfl fun b2 w a hk hs => ?_
  refine sa _ rfl hk rfl rfl rfl fun a hk => ?_
  show wpList _ _ _ [] _ _
  refine wpList_nil ?_
  refine hK1 _ _ ?_
  apply wp_seq_k; intro K3 hK3
  apply wp_region_lit
  refine sf ⟨b2, 0, none⟩ rfl hk rfl rfl rfl fd51_0 rfl fun a hk => ?_
  refine sl rfl hk rfl rfl rfl ag31 (box_cell hs (k := 4) rfl rfl) fun a hk => ?_
  refine sm _ rfl hk rfl rfl rfl fun a hk => ?_
  obtain ⟨y4, h5, H⟩ := bind_some H
  refine sc rfl en42 hk rfl rfl rfl (laws_heldIntS_t _ A0_0 p0_0 x0.Pos _ v0_0 (hs.hasD (k := 1) rfl) x1 _ h5) ?_
  rintro _ w ⟨rfl, hG⟩ a hk
  have hs := hs.call0 hG
  refine sa _ rfl hk rfl rfl rfl fun a hk => ?_
  show wpList _ _ _ [] _ _
  refine wpList_nil ?_
  refine hK3 _ _ ?_
  apply wp_seq_k; intro K6 hK6
  apply wp_seq_k; intro K7 hK7
  apply wp_region_lit
  refine sm _ rfl hk rfl rfl rfl fun a hk => ?_
  refine sv (.bool (decide (y4 < 0))) hk rfl rfl rfl fun a hk => ?_
  show wpList _ _ _ [] _ _
  refine wpList_nil ?_
  refine hK7 _ _ ?_
  rcases cond_some H with ⟨c8, H⟩ | ⟨c8, H⟩
  ·have hk := hk.lit 10 c8 rfl
   refine cnd_true hk rfl rfl ?_
   apply wp_seq_k; intro K9 hK9
   apply wp_region_lit
   refine sa _ rfl hk rfl rfl rfl fun a hk => ?_
   show wpList _ _ _ [] _ _
   refine wpList_nil ?_
   refine hK9 _ _ ?_
   refine wp_ret ?_
   obtain rfl := Option.some.inj H
   exact fin hk _ [(.int .i64 (-1))] rfl ⟨rfl, trivial⟩ ⟨rfl, (hs.pick [] rfl).dnil⟩
  ·have hk := hk.lit 10 c8 rfl
   refine cnd_false hk rfl rfl ?_
   refine wp_skip ?_
   refine hK6 _ _ ?_
   apply wp_seq_k; intro K10 hK10
   apply wp_region_lit
   refine sf ⟨b2, 1, none⟩ rfl hk rfl rfl rfl fd51_1 rfl fun a hk => ?_
   refine sl rfl hk rfl rfl rfl ag26 (box_cell hs (k := 4) rfl rfl) fun a hk => ?_
   refine sm _ rfl hk rfl rfl rfl fun a hk => ?_
   obtain ⟨y11, h12, H⟩ := bind_some H
   refine sc rfl en36 hk rfl rfl rfl (laws_heldBlockS_t _ A0_1 p0_1 x0.Stash _ v0_1 (hs.hasD (k := 2) rfl) y4 _ h12) ?_
   rintro _ w ⟨rfl, hG⟩ a hk
   have hs := hs.call0 hG
   refine sa _ rfl hk rfl rfl rfl fun a hk => ?_
   show wpList _ _ _ [] _ _
   refine wpList_nil ?_
   refine hK10 _ _ ?_
   apply wp_seq_k; intro K13 hK13
   apply wp_seq_k; intro K14 hK14
   apply wp_region_lit
   refine sm _ rfl hk rfl rfl rfl fun a hk => ?_
   refine sv (.bool (decide (y11 < 0))) hk rfl rfl rfl fun a hk => ?_
   show wpList _ _ _ [] _ _
   refine wpList_nil ?_
   refine hK14 _ _ ?_
   rcases cond_some H with ⟨c15, H⟩ | ⟨c15, H⟩
   ·have hk := hk.lit 16 c15 rfl
    refine cnd_true hk rfl rfl ?_
    apply wp_seq_k; intro K16 hK16
    apply wp_region_lit
    refine sa _ rfl hk rfl rfl rfl fun a hk => ?_
    show wpList _ _ _ [] _ _
    refine wpList_nil ?_
    refine hK16 _ _ ?_
    refine wp_ret ?_
    obtain rfl := Option.some.inj H
    exact fin hk _ [(.int .i64 (-1))] rfl ⟨rfl, trivial⟩ ⟨rfl, (hs.pick [] rfl).dnil⟩
   ·have hk := hk.lit 16 c15 rfl
    refine cnd_false hk rfl rfl ?_
    refine wp_skip ?_
    refine hK13 _ _ ?_
    apply wp_seq_k; intro K17 hK17
    apply wp_region_lit
    refine sf ⟨b2, 2, none⟩ rfl hk rfl rfl rfl fd51_2 rfl fun a hk => ?_
    refine sl rfl hk rfl rfl rfl ag49 (box_cell hs (k := 4) rfl rfl) fun a hk => ?_
    refine sm _ rfl hk rfl rfl rfl fun a hk => ?_
    obtain ⟨y18, h19, H⟩ := bind_some H
    refine sc rfl en145 hk rfl rfl rfl (laws_heldBlockSS_t _ A0_2 p0_2 x0.Buckets _ v0_2 (hs.hasD (k := 3) rfl) y11 _ h19) ?_
    rintro _ w ⟨rfl, hG⟩ a hk
    have hs := hs.call0 hG
    refine sa _ rfl hk rfl rfl rfl fun a hk => ?_
    show wpList _ _ _ [] _ _
    refine wpList_nil ?_
    refine hK17 _ _ ?_
    apply wp_seq_k; intro K20 hK20
    apply wp_seq_k; intro K21 hK21
    apply wp_region_lit
    refine sm _ rfl hk rfl rfl rfl fun a hk => ?_
    refine sv (.bool (decide (y18 < 0))) hk rfl rfl rfl fun a hk => ?_
    show wpList _ _ _ [] _ _
    refine wpList_nil ?_
    refine hK21 _ _ ?_
    rcases cond_some H with ⟨c22, H⟩ | ⟨c22, H⟩
    ·have hk := hk.lit 22 c22 rfl
     refine cnd_true hk rfl rfl ?_
     apply wp_seq_k; intro K23 hK23
     apply wp_region_lit
     refine sa _ rfl hk rfl rfl rfl fun a hk => ?_
     show wpList _ _ _ [] _ _
     refine wpList_nil ?_
     refine hK23 _ _ ?_
     refine wp_ret ?_
     obtain rfl := Option.some.inj H
     exact fin hk _ [(.int .i64 (-1))] rfl ⟨rfl, trivial⟩ ⟨rfl, (hs.pick [] rfl).dnil⟩
    ·have hk := hk.lit 22 c22 rfl
     refine cnd_false hk rfl rfl ?_
     refine wp_skip ?_
     refine hK20 _ _ ?_
     apply wp_seq_k; intro K24 hK24
     apply wp_region_lit
     refine sm _ rfl hk rfl rfl rfl fun a hk => ?_
     refine sa _ rfl hk rfl rfl rfl fun a hk => ?_
     show wpList _ _ _ [] _ _
     refine wpList_nil ?_
     refine hK24 _ _ ?_
     refine wp_ret ?_
     obtain rfl := Option.some.inj H
     exact fin hk _ [(.int .i64 y18)] rfl ⟨rfl, trivial⟩ ⟨rfl, (hs.pick [] rfl).dnil⟩

noncomputable def laws_heldEnc.f (x0 : S_Enc) (x1 : Int) : Option (Int) :=
  ((laws_heldIntS.f x0.Keys x1).bind fun y4 => (bif (decide (y4 < 0)) then (some (-1)) else ((laws_heldOram.f x0.Oram y4).bind fun y11 => (bif (decide (y11 < 0)) then (some (-1)) else (some y11)))))
set_option maxRecDepth 100000 in
set_option maxHeartbeats 0 in
theorem laws_heldEnc_t (w0 : World) (x0 : S_Enc) (A0_0 : Option Addr) (p0_0 : Nat) (k0_0 : Chunk) (v0_0 : View (Lay.int .i64) A0_0 p0_0 x0.Keys k0_0) (w0_0 : Has w0 k0_0) (A0_1 : Option Addr) (p0_1 : Nat) (k0_1 : Chunk) (v0_1 : View (Lay.int .i64) A0_1 p0_1 x0.Oram.Pos k0_1) (w0_1 : Has w0 k0_1) (A0_2 : Option Addr) (p0_2 : Nat) (k0_2 : Chunk) (v0_2 : View L_Block A0_2 p0_2 x0.Oram.Stash k0_2) (w0_2 : Has w0 k0_2) (A0_3 : Option Addr) (p0_3 : Nat) (k0_3 : Chunk) (v0_3 : View (Lay.sl L_Block 81) A0_3 p0_3 x0.Oram.Buckets k0_3) (w0_3 : Has w0 k0_3) (x1 : Int) (r : Int) (H : laws_heldEnc.f x0 x1 = some r) :
    Calls Try.prog 47 #[.agg #[.slice A0_0 x0.Keys.length p0_0, .slice A0_1 x0.Oram.Pos.length p0_1, .slice A0_2 x0.Oram.Stash.length p0_2, .slice A0_3 x0.Oram.Buckets.length p0_3], .int .i64 x1] w0 (Ret (fun v w => v = .int .i64 r ∧ Sat [] w0 w [] [])) := by
  have hs : Sat [] w0 w0 [(1, k0_0), (2, k0_1), (3, k0_2), (4, k0_3)] [] := Sat.init w0 [(1, k0_0), (2, k0_1), (3, k0_2), (4, k0_3)] [] (by simp only [List.mem_cons, List.not_mem_nil, or_false]; rintro x (rfl | rfl | rfl | rfl) <;> assumption) (by simp) List.nodup_nil (by simp [blks])
  unfold laws_heldEnc.f at H
  refine enter Try.func47 rfl Try.ntmps47 rfl fun a hk => ?_
  apply wp_seq_k; intro K1 hK1
  apply wp_region_lit
  refine sbx 5 hs rfl hk rfl rfl rfl rfl fun b2 w a hk hs => ?_
  refine sa _ rfl hk rfl rfl rfl fun a hk => ?_
  show wpList _ _ _ [] _ _
  refine wpList_nil ?_
  refine hK1 _ _ ?_
  apply wp_seq_k; intro K3 hK3
  apply wp_region_lit
  refine sf ⟨b2, 0, none⟩ rfl hk rfl rfl rfl fd53_0 rfl fun a hk => ?_
  refine sl rfl hk rfl rfl rfl ag31 (box_cell hs (k := 5) rfl rfl) fun a hk => ?_
  refine sm _ rfl hk rfl rfl rfl fun a hk => ?_
  obtain ⟨y4, h5, H⟩ := bind_some H
  refine sc rfl en42 hk rfl rfl rfl (laws_heldIntS_t _ A0_0 p0_0 x0.Keys _ v0_0 (hs.hasD (k := 1) rfl) x1 _ h5) ?_
  rintro _ w ⟨rfl, hG⟩ a hk
  have hs := hs.call0 hG
  refine sa _ rfl hk rfl rfl rfl fun a hk => ?_
  show wpList _ _ _ [] _ _
  refine wpList_nil ?_
  refine hK3 _ _ ?_
  apply wp_seq_k; intro K6 hK6
  apply wp_seq_k; intro K7 hK7
  apply wp_region_lit
  refine sm _ rfl hk rfl rfl rfl fun a hk => ?_
  refine sv (.bool (decide (y4 < 0))) hk rfl rfl rfl fun a hk => ?_
  show wpList _ _ _ [] _ _
  refine wpList_nil ?_
  refine hK7 _ _ ?_
  rcases cond_some H with ⟨c8, H⟩ | ⟨c8, H⟩
  ·have hk := hk.lit 10 c8 rfl
   refine cnd_true hk rfl rfl ?_
   apply wp_seq_k; intro K9 hK9
   apply wp_region_lit
   refine sa _ rfl hk rfl rfl rfl fun a hk => ?_
   show wpList _ _ _ [] _ _
   refine wpList_nil ?_
   refine hK9 _ _ ?_
   refine wp_ret ?_
   obtain rfl := Option.some.inj H
   exact fin hk _ [(.int .i64 (-1))] rfl ⟨rfl, trivial⟩ ⟨rfl, (hs.pick [] rfl).dnil⟩
  ·have hk := hk.lit 10 c8 rfl
   refine cnd_false hk rfl rfl ?_
   refine wp_skip ?_
   refine hK6 _ _ ?_
   apply wp_seq_k; intro K10 hK10
   apply wp_region_lit
   refine sf ⟨b2, 1, none⟩ rfl hk rfl rfl rfl fd53_1 rfl fun a hk => ?_
   refine sln [.slice A0_1 x0.Oram.Pos.length p0_1, .slice A0_2 x0.Oram.Stash.length p0_2, .slice A0_3 x0.Oram.Buckets.length p0_3] rfl hk rfl rfl rfl ag51 sz51 (box_part hs (k := 5) rfl rfl) fun a hk => ?_
   refine sm _ rfl hk rfl rfl rfl fun a hk => ?_
   obtain ⟨y11, h12, H⟩ := bind_some H
   refine sc rfl en96 hk rfl rfl rfl (laws_heldOram_t _ x0.Oram A0_1 p0_1 _ v0_1 (hs.hasD (k := 2) rfl) A0_2 p0_2 _ v0_2 (hs.hasD (k := 3) rfl) A0_3 p0_3 _ v0_3 (hs.hasD (k := 4) rfl) y4 _ h12) ?_
   rintro _ w ⟨rfl, hG⟩ a hk
   have hs := hs.call0 hG
   refine sa _ rfl hk rfl rfl rfl fun a hk => ?_
   show wpList _ _ _ [] _ _
   refine wpList_nil ?_
   refine hK10 _ _ ?_
   apply wp_seq_k; intro K13 hK13
   apply wp_seq_k; intro K14 hK14
   apply wp_region_lit
   refine sm _ rfl hk rfl rfl rfl fun a hk => ?_
   refine sv (.bool (decide (y11 < 0))) hk rfl rfl rfl fun a hk => ?_
   show wpList _ _ _ [] _ _
   refine wpList_nil ?_
   refine hK14 _ _ ?_
   rcases cond_some H with ⟨c15, H⟩ | ⟨c15, H⟩
   ·have hk := hk.lit 16 c15 rfl
    refine cnd_true hk rfl rfl ?_
    apply wp_seq_k; intro K16 hK16
    apply wp_region_lit
    refine sa _ rfl hk rfl rfl rfl fun a hk => ?_
    show wpList _ _ _ [] _ _
    refine wpList_nil ?_
    refine hK16 _ _ ?_
    refine wp_ret ?_
    obtain rfl := Option.some.inj H
    exact fin hk _ [(.int .i64 (-1))] rfl ⟨rfl, trivial⟩ ⟨rfl, (hs.pick [] rfl).dnil⟩
   ·have hk := hk.lit 16 c15 rfl
    refine cnd_false hk rfl rfl ?_
    refine wp_skip ?_
    refine hK13 _ _ ?_
    apply wp_seq_k; intro K17 hK17
    apply wp_region_lit
    refine sm _ rfl hk rfl rfl rfl fun a hk => ?_
    refine sa _ rfl hk rfl rfl rfl fun a hk => ?_
    show wpList _ _ _ [] _ _
    refine wpList_nil ?_
    refine hK17 _ _ ?_
    refine wp_ret ?_
    obtain rfl := Option.some.inj H
    exact fin hk _ [(.int .i64 y11)] rfl ⟨rfl, trivial⟩ ⟨rfl, (hs.pick [] rfl).dnil⟩

noncomputable def laws_heldResultS.s0 (l0 : List S_Result) (u6 : Int) (u7 : Int) : Option ((Int × Int) ⊕ Ex (Int) (Int)) :=
  (bif (decide (u7 < (l0.length : Int))) then (if 0 ≤ u7 ∧ u7 < (l0.length : Int) then (bif (((l0.getD u7.toNat z_Result).Code) != u6) then (some (.inr (.ret (-1)))) else (if 0 ≤ u7 ∧ u7 < (l0.length : Int) then ((laws_heldIntS.f ((l0.getD u7.toNat z_Result).Values) (w64 (u6 + 1))).bind fun y41 => (bif (decide (y41 < 0)) then (some (.inr (.ret (-1)))) else (some (.inl (y41, (w64 (u7 + 1))))))) else none)) else none) else (some (.inr (.out u6))))
noncomputable def laws_heldResultS.f (l0 : List S_Result) (x1 : Int) : Option (Int) :=
  ((loopO (fun s => laws_heldResultS.s0 l0 s.1 s.2) (x1, 0)).bind fun o => match o with | .out u8 => (some u8) | .ret r => (some r))
set_option maxRecDepth 100000 in
set_option maxHeartbeats 0 in
theorem laws_heldResultS_t (w0 : World) (A0_ : Option Addr) (p0_ : Nat) (l0 : List S_Result) (k0_ : Chunk) (v0_ : View L_impl_Result A0_ p0_ l0 k0_) (w0_ : Has w0 k0_) (x1 : Int) (r : Int) (H : laws_heldResultS.f l0 x1 = some r) :
    Calls Try.prog 48 #[.slice A0_ l0.length p0_, .int .i64 x1] w0 (Ret (fun v w => v = .int .i64 r ∧ Sat [] w0 w [] [])) := by
  have hs : Sat [] w0 w0 [(1, k0_)] [] := Sat.init w0 [(1, k0_)] [] (by simp only [List.mem_cons, List.not_mem_nil, or_false]; rintro x (rfl) <;> assumption) (by simp) List.nodup_nil (by simp [blks])
  unfold laws_heldResultS.f at H
  refine enter Try.func48 rfl Try.ntmps48 rfl fun a hk => ?_
  apply wp_seq_k; intro K1 hK1
  apply wp_region_lit
  refine sa _ rfl hk rfl rfl rfl fun a hk => ?_
  show wpList _ _ _ [] _ _
  refine wpList_nil ?_
  refine hK1 _ _ ?_
  apply wp_seq_k; intro K2 hK2
  apply wp_seq_k; intro K3 hK3
  apply wp_region_lit
  refine sa _ rfl hk rfl rfl rfl fun a hk => ?_
  show wpList _ _ _ [] _ _
  refine wpList_nil ?_
  refine hK3 _ _ ?_
  obtain ⟨o9, h10, HL11⟩ := bind_some H
  clear H
  obtain ⟨R12, hR12⟩ : ∃ R : Act → World → Prop, R = fun a w => ∃ (u8 : Int), o9 = .out u8 ∧ Kn [(1, (.int .i64 u8))] 31 a ∧ Sat [] w0 w [(1, k0_)] [] := ⟨_, rfl⟩
  refine wp_cutq R12 ?_ ?_
  ·refine wp_block ?_
   obtain ⟨fu14, h10⟩ := loopO_some h10
   obtain ⟨I13, hI13⟩ : ∃ I : Nat → Act → World → Prop, I = fun fu a w => ∃ (u6 : Int) (u7 : Int), loopN (fun s => laws_heldResultS.s0 l0 s.1 s.2) fu (u6, u7) = some o9 ∧ Kn [(0, (.slice A0_ l0.length p0_)), (1, (.int .i64 u6)), (5, (.int .i64 u7))] 31 a ∧ Sat [] w0 w [(1, k0_)] [] := ⟨_, rfl⟩
   refine wp_loop_ghost I13 fu14 ?_ ?_
   ·rw [hI13]
    exact ⟨x1, 0, h10, (hk.c 0 rfl (hk.c 1 rfl (hk.c 5 rfl hk.k))), (hs.pick [] rfl)⟩
   ·clear h10 hk hs
    intro fu14 a w hI0
    rw [hI13] at hI0
    obtain ⟨u6, u7, hi, hk, hs⟩ := hI0
    obtain ⟨x15, H, h16⟩ := loop_round hi
    try dsimp only at H
    unfold laws_heldResultS.s0 at H
    apply wp_seq_k; intro K17 hK17
    apply wp_seq_k; intro K18 hK18
    apply wp_region_lit
    refine sm _ rfl hk rfl rfl rfl fun a hk => ?_
    refine sm _ rfl hk rfl rfl rfl fun a hk => ?_
    refine sle rfl hk rfl rfl rfl un55 fun a hk => ?_
    refine sv (.bool (decide (u7 < (l0.length : Int)))) hk rfl rfl rfl fun a hk => ?_
    show wpList _ _ _ [] _ _
    refine wpList_nil ?_
    refine hK18 _ _ ?_
    rcases cond_some H with ⟨c19, H⟩ | ⟨c19, H⟩
    ·have hk := hk.lit 9 c19 rfl
     refine cnd_true hk rfl rfl ?_
     refine wp_skip ?_
     refine hK17 _ _ ?_
     apply wp_seq_k; intro K20 hK20
     refine wp_block ?_
     apply wp_seq_k; intro K21 hK21
     apply wp_seq_k; intro K22 hK22
     apply wp_region_lit
     refine sm _ rfl hk rfl rfl rfl fun a hk => ?_
     refine sm _ rfl hk rfl rfl rfl fun a hk => ?_
     rcases ite_some H with ⟨c23, H⟩ | ⟨_, H⟩
     rotate_left
     ·cases H
     obtain ⟨b24, q25, hAc23⟩ := (v0_).some_ u7 c23.1 c23.2
     refine si rfl hk rfl rfl rfl rfl un55 sz105 c23.1 c23.2 hAc23 fun a hk => ?_
     refine sf (padd A0_ (u7.toNat * 2 + 0)) rfl hk rfl rfl rfl fd105_0 (padd_add _ _ _) fun a hk => ?_
     obtain ⟨_, ⟨_, _, rfl, rfl, ⟨_, rfl, A27, p28, rfl, v29⟩⟩, e26⟩ := (v0_).at_ z_Result u7 c23.1 c23.2
     refine sl (v := (.int .i64 ((l0.getD u7.toNat z_Result).Code))) rfl hk rfl rfl rfl ag3 ((e26 0 _ rfl).cell (hs.hasD (k := 1) rfl)) fun a hk => ?_
     refine sm _ rfl hk rfl rfl rfl fun a hk => ?_
     refine sv (.bool (((l0.getD u7.toNat z_Result).Code) != u6)) hk rfl rfl rfl fun a hk => ?_
     show wpList _ _ _ [] _ _
     refine wpList_nil ?_
     refine hK22 _ _ ?_
     rcases cond_some H with ⟨c30, H⟩ | ⟨c30, H⟩
     ·have hk := hk.lit 18 c30 rfl
      refine cnd_true hk rfl rfl ?_
      apply wp_seq_k; intro K31 hK31
      apply wp_region_lit
      refine sa _ rfl hk rfl rfl rfl fun a hk => ?_
      show wpList _ _ _ [] _ _
      refine wpList_nil ?_
      refine hK31 _ _ ?_
      refine wp_ret ?_
      obtain rfl := Option.some.inj H
      have ho9 := h16
      try dsimp only at ho9
      subst ho9
      have H := HL11
      try dsimp only at H
      obtain rfl := Option.some.inj H
      exact fin hk _ [(.int .i64 (-1))] rfl ⟨rfl, trivial⟩ ⟨rfl, (hs.pick [] rfl).dnil⟩
     ·have hk := hk.lit 18 c30 rfl
      refine cnd_false hk rfl rfl ?_
      refine wp_skip ?_
      refine hK21 _ _ ?_
      apply wp_seq_k; intro K32 hK32
      apply wp_region_lit
      refine sm _ rfl hk rfl rfl rfl fun a hk => ?_
      refine sv (.int .i64 (w64 (u6 + 1))) hk rfl rfl rfl fun a hk => ?_
      refine sa _ rfl hk rfl rfl rfl fun a hk => ?_
      show wpList _ _ _ [] _ _
      refine wpList_nil ?_
      refine hK32 _ _ ?_
      apply wp_seq_k; intro K33 hK33
      apply wp_region_lit
      refine sm _ rfl hk rfl rfl rfl fun a hk => ?_
      refine sm _ rfl hk rfl rfl rfl fun a hk => ?_
      rcases ite_some H with ⟨c34, H⟩ | ⟨_, H⟩
      rotate_left
      ·cases H
      obtain ⟨b35, q36, hAc34⟩ := (v0_).some_ u7 c34.1 c34.2
      refine si rfl hk rfl rfl rfl rfl un55 sz105 c34.1 c34.2 hAc34 fun a hk => ?_
      refine sf (padd A0_ (u7.toNat * 2 + 1)) rfl hk rfl rfl rfl fd105_1 (padd_add _ _ _) fun a hk => ?_
      obtain ⟨_, ⟨_, _, rfl, rfl, ⟨_, rfl, A38, p39, rfl, v40⟩⟩, e37⟩ := (v0_).at_ z_Result u7 c34.1 c34.2
      refine sl (v := (.slice A38 ((l0.getD u7.toNat z_Result).Values).length p39)) rfl hk rfl rfl rfl ag31 ((e37 1 _ rfl).cell (hs.hasD (k := 1) rfl)) fun a hk => ?_
      refine sm _ rfl hk rfl rfl rfl fun a hk => ?_
      obtain ⟨y41, h42, H⟩ := bind_some H
      refine sc rfl en42 hk rfl rfl rfl (laws_heldIntS_t _ A38 p39 ((l0.getD u7.toNat z_Result).Values) _ v40 (hs.hasD (k := 1) rfl) (w64 (u6 + 1)) _ h42) ?_
      rintro _ w ⟨rfl, hG⟩ a hk
      have hs := hs.call0 hG
      refine sa _ rfl hk rfl rfl rfl fun a hk => ?_
      show wpList _ _ _ [] _ _
      refine wpList_nil ?_
      refine hK33 _ _ ?_
      apply wp_seq_k; intro K43 hK43
      apply wp_region_lit
      refine sm _ rfl hk rfl rfl rfl fun a hk => ?_
      refine sv (.bool (decide (y41 < 0))) hk rfl rfl rfl fun a hk => ?_
      show wpList _ _ _ [] _ _
      refine wpList_nil ?_
      refine hK43 _ _ ?_
      rcases cond_some H with ⟨c44, H⟩ | ⟨c44, H⟩
      ·have hk := hk.lit 29 c44 rfl
       refine cnd_true hk rfl rfl ?_
       apply wp_seq_k; intro K45 hK45
       apply wp_region_lit
       refine sa _ rfl hk rfl rfl rfl fun a hk => ?_
       show wpList _ _ _ [] _ _
       refine wpList_nil ?_
       refine hK45 _ _ ?_
       refine wp_ret ?_
       obtain rfl := Option.some.inj H
       have ho9 := h16
       try dsimp only at ho9
       subst ho9
       have H := HL11
       try dsimp only at H
       obtain rfl := Option.some.inj H
       exact fin hk _ [(.int .i64 (-1))] rfl ⟨rfl, trivial⟩ ⟨rfl, (hs.pick [] rfl).dnil⟩
      ·have hk := hk.lit 29 c44 rfl
       refine cnd_false hk rfl rfl ?_
       refine wp_skip ?_
       refine hK20 _ _ ?_
       apply wp_region_lit
       refine sm _ rfl hk rfl rfl rfl fun a hk => ?_
       refine sv (.int .i64 (w64 (u7 + 1))) hk rfl rfl rfl fun a hk => ?_
       refine sa _ rfl hk rfl rfl rfl fun a hk => ?_
       show wpList _ _ _ [] _ _
       refine wpList_nil ?_
       obtain rfl := Option.some.inj H
       obtain ⟨m46, hmm46, h16⟩ := h16
       show ∃ n', n' < _ ∧ I13 n' _ _
       refine ⟨m46, hmm46, ?_⟩
       rw [hI13]
       exact ⟨y41, (w64 (u7 + 1)), h16, (hk.c 0 rfl (hk.c 1 rfl (hk.c 5 rfl hk.k))), (hs.pick [] rfl)⟩
    ·have hk := hk.lit 9 c19 rfl
     refine cnd_false hk rfl rfl ?_
     refine wp_exit ?_
     obtain rfl := Option.some.inj H
     show R12 _ _
     rw [hR12]
     exact ⟨u6, h16.symm, (hk.c 1 rfl hk.k), (hs.pick [] rfl)⟩
  ·intro a w hR0
   rw [hR12] at hR0
   obtain ⟨u8, rfl, hk, hs⟩ := hR0
   have H := HL11
   try dsimp only at H
   refine hK2 _ _ ?_
   apply wp_seq_k; intro K47 hK47
   apply wp_region_lit
   refine sm _ rfl hk rfl rfl rfl fun a hk => ?_
   refine sa _ rfl hk rfl rfl rfl fun a hk => ?_
   show wpList _ _ _ [] _ _
   refine wpList_nil ?_
   refine hK47 _ _ ?_
   refine wp_ret ?_
   obtain rfl := Option.some.inj H
   exact fin hk _ [(.int .i64 u8)] rfl ⟨rfl, trivial⟩ ⟨rfl, (hs.pick [] rfl).dnil⟩

noncomputable def laws_FnExactReadState.f (x0 : ByteArray) : Option (Bool) :=
  (bif (decide ((x0.size : Int) > 1048576)) then (some true) else ((spec_ReadState.f x0).bind fun y7 => ((impl_ReadState.f x0).bind fun y31 => ((((laws_eqEnc.f y31.1 y7.1).bind fun y62 => (bif (!y62) then (some true) else ((laws_eqResultS.f y31.2.1 y7.2.1).bind fun y65 => (bif (!y65) then (some true) else (some (y31.2.2 != y7.2.2)))))) : Option (Bool)).bind fun u57 => (bif u57 then (some false) else ((laws_markEnc.f y31.1 1).bind fun y72 => ((laws_markResultS.f y31.2.1 y72.1).bind fun y91 => ((laws_heldEnc.f (⟨y72.2.1, (⟨y72.2.2.1, y72.2.2.2.1, y72.2.2.2.2⟩ : S_Oram)⟩ : S_Enc) 1).bind fun y99 => (bif (decide (y99 < 0)) then (some false) else ((laws_heldResultS.f y91.2 y99).bind fun y106 => (bif (decide (y106 < 0)) then (some false) else (bif (y106 != y91.1) then (some false) else ((impl_ReadState.f x0).bind fun y117 => ((((laws_eqEnc.f y117.1 y7.1).bind fun y148 => (bif (!y148) then (some true) else ((laws_eqResultS.f y117.2.1 y7.2.1).bind fun y151 => (bif (!y151) then (some true) else (some (y117.2.2 != y7.2.2)))))) : Option (Bool)).bind fun u143 => (bif u143 then (some false) else ((laws_heldEnc.f (⟨y72.2.1, (⟨y72.2.2.1, y72.2.2.2.1, y72.2.2.2.2⟩ : S_Oram)⟩ : S_Enc) 1).bind fun y158 => (bif (decide (y158 < 0)) then (some false) else ((laws_heldResultS.f y91.2 y158).bind fun y165 => (bif (decide (y165 < 0)) then (some false) else (bif (y165 != y91.1) then (some false) else (some true)))))))))))))))))))))
set_option maxRecDepth 100000 in
set_option maxHeartbeats 0 in
theorem laws_FnExactReadState_t (w0 : World) (x0 : ByteArray) (r : Bool) (H : laws_FnExactReadState.f x0 = some r) :
    Calls Try.prog 9 #[.string x0] w0 (Ret (fun v w => v = .bool r ∧ Sat [] w0 w [] [])) := by
  have hs : Sat [] w0 w0 [] [] := Sat.init w0 [] [] (by simp) (by simp) List.nodup_nil (by simp [blks])
  unfold laws_FnExactReadState.f at H
  refine enter Try.func9 rfl Try.ntmps9 rfl fun a hk => ?_
  apply wp_seq_k; intro K1 hK1
  apply wp_region_lit
  refine sa _ rfl hk rfl rfl rfl fun a hk => ?_
  show wpList _ _ _ [] _ _
  refine wpList_nil ?_
  refine hK1 _ _ ?_
  apply wp_seq_k; intro K2 hK2
  apply wp_seq_k; intro K3 hK3
  apply wp_region_lit
  refine sm _ rfl hk rfl rfl rfl fun a hk => ?_
  refine sles rfl hk rfl rfl rfl un9 fun a hk => ?_
  refine sv (.bool (decide ((x0.size : Int) > 1048576))) hk rfl rfl rfl fun a hk => ?_
  show wpList _ _ _ [] _ _
  refine wpList_nil ?_
  refine hK3 _ _ ?_
  rcases cond_some H with ⟨c4, H⟩ | ⟨c4, H⟩
  ·have hk := hk.lit 16 c4 rfl
   refine cnd_true hk rfl rfl ?_
   apply wp_seq_k; intro K5 hK5
   apply wp_region_lit
   refine sa _ rfl hk rfl rfl rfl fun a hk => ?_
   show wpList _ _ _ [] _ _
   refine wpList_nil ?_
   refine hK5 _ _ ?_
   refine wp_ret ?_
   obtain rfl := Option.some.inj H
   exact fin hk _ [(.bool true)] rfl ⟨rfl, trivial⟩ ⟨rfl, (hs.pick [] rfl).dnil⟩
  ·have hk := hk.lit 16 c4 rfl
   refine cnd_false hk rfl rfl ?_
   refine wp_skip ?_
   refine hK2 _ _ ?_
   apply wp_seq_k; intro K6 hK6
   apply wp_region_lit
   refine sm _ rfl hk rfl rfl rfl fun a hk => ?_
   obtain ⟨y7, h8, H⟩ := bind_some H
   refine sc rfl en43 hk rfl rfl rfl (spec_ReadState_t _ x0 _ h8) ?_
   rintro _ w ⟨A9, p10, k11, A13, p14, k15, A17, p18, k19, A21, p22, k23, A25, p26, k27, rfl, o12, o16, o20, o24, o28, hG⟩ a hk
   have hs := hs.call0k hG [1, 2, 3, 4, 5] rfl
   refine sm _ rfl hk rfl rfl rfl fun a hk => ?_
   refine sv (.agg #[.slice A9 y7.1.Keys.length p10, .slice A13 y7.1.Oram.Pos.length p14, .slice A17 y7.1.Oram.Stash.length p18, .slice A21 y7.1.Oram.Buckets.length p22]) hk rfl rfl rfl fun a hk => ?_
   refine sv (.slice A25 y7.2.1.length p26) hk rfl rfl rfl fun a hk => ?_
   refine sv (.int .i64 y7.2.2) hk rfl rfl rfl fun a hk => ?_
   refine salx 6 hs rfl hk rfl rfl ze53 rfl fun b29 w a hk hs => ?_
   refine ssw 6 hs rfl rfl hk rfl rfl rfl rfl sz53 (by simp [Value.oneCell']) rfl fun w a hk hs => ?_
   refine sa _ rfl hk rfl rfl rfl fun a hk => ?_
   refine sa _ rfl hk rfl rfl rfl fun a hk => ?_
   show wpList _ _ _ [] _ _
   refine wpList_nil ?_
   refine hK6 _ _ ?_
   apply wp_seq_k; intro K30 hK30
   apply wp_region_lit
   refine sm _ rfl hk rfl rfl rfl fun a hk => ?_
   obtain ⟨y31, h32, H⟩ := bind_some H
   refine sc rfl en44 hk rfl rfl rfl (impl_ReadState_t _ x0 _ h32) ?_
   rintro _ w ⟨A33, p34, k35, A37, p38, k39, A41, p42, k43, A45, p46, k47, A49, p50, k51, rfl, o36, o40, o44, o48, o52, hG⟩ a hk
   have hs := hs.call0k hG [7, 8, 9, 10, 11] rfl
   refine sm _ rfl hk rfl rfl rfl fun a hk => ?_
   refine sv (.agg #[.slice A33 y31.1.Keys.length p34, .slice A37 y31.1.Oram.Pos.length p38, .slice A41 y31.1.Oram.Stash.length p42, .slice A45 y31.1.Oram.Buckets.length p46]) hk rfl rfl rfl fun a hk => ?_
   refine sv (.slice A49 y31.2.1.length p50) hk rfl rfl rfl fun a hk => ?_
   refine sv (.int .i64 y31.2.2) hk rfl rfl rfl fun a hk => ?_
   refine salx 12 hs rfl hk rfl rfl ze53 rfl fun b53 w a hk hs => ?_
   refine ssw 12 hs rfl rfl hk rfl rfl rfl rfl sz53 (by simp [Value.oneCell']) rfl fun w a hk hs => ?_
   refine sa _ rfl hk rfl rfl rfl fun a hk => ?_
   refine sa _ rfl hk rfl rfl rfl fun a hk => ?_
   show wpList _ _ _ [] _ _
   refine wpList_nil ?_
   refine hK30 _ _ ?_
   apply wp_seq_k; intro K54 hK54
   apply wp_seq_k; intro K55 hK55
   obtain ⟨o58, h59, HL60⟩ := bind_some H
   clear H
   obtain ⟨R61, hR61⟩ : ∃ R : Act → World → Prop, R = fun a w => ∃ (u57 : Bool), u57 = o58 ∧ Kn [(0, (.string x0)), (3, (.pointer (some ⟨b29, 0, none⟩))), (4, (.slice A25 y7.2.1.length p26)), (5, (.int .i64 y7.2.2)), (6, (.pointer (some ⟨b53, 0, none⟩))), (7, (.slice A49 y31.2.1.length p50)), (43, (.bool u57))] 97 a ∧ Sat [] w0 w [] [(5, k27), (11, k51), (6, [(b29, .cells #[.slice A9 y7.1.Keys.length p10, .slice A13 y7.1.Oram.Pos.length p14, .slice A17 y7.1.Oram.Stash.length p18, .slice A21 y7.1.Oram.Buckets.length p22] 53 (0, 0))]), (1, k11), (2, k15), (3, k19), (4, k23), (12, [(b53, .cells #[.slice A33 y31.1.Keys.length p34, .slice A37 y31.1.Oram.Pos.length p38, .slice A41 y31.1.Oram.Stash.length p42, .slice A45 y31.1.Oram.Buckets.length p46] 53 (0, 0))]), (7, k35), (8, k39), (9, k43), (10, k47)] := ⟨_, rfl⟩
   refine wp_cutq R61 ?_ ?_
   ·have H := h59
    apply wp_region_lit
    refine sln [.slice A33 y31.1.Keys.length p34, .slice A37 y31.1.Oram.Pos.length p38, .slice A41 y31.1.Oram.Stash.length p42, .slice A45 y31.1.Oram.Buckets.length p46] rfl hk rfl rfl rfl ag53 sz53 (box_cells hs (k := 12) rfl) fun a hk => ?_
    refine sln [.slice A9 y7.1.Keys.length p10, .slice A13 y7.1.Oram.Pos.length p14, .slice A17 y7.1.Oram.Stash.length p18, .slice A21 y7.1.Oram.Buckets.length p22] rfl hk rfl rfl rfl ag53 sz53 (box_cells hs (k := 6) rfl) fun a hk => ?_
    obtain ⟨y62, h63, H⟩ := bind_some H
    refine sc rfl en29 hk rfl rfl rfl (laws_eqEnc_t _ y31.1 A33 p34 _ o36.view (hs.hasG (k := 7) rfl) A37 p38 _ o40.view (hs.hasG (k := 8) rfl) A41 p42 _ o44.view (hs.hasG (k := 9) rfl) A45 p46 _ o48.view (hs.hasG (k := 10) rfl) y7.1 A9 p10 _ o12.view (hs.hasG (k := 1) rfl) A13 p14 _ o16.view (hs.hasG (k := 2) rfl) A17 p18 _ o20.view (hs.hasG (k := 3) rfl) A21 p22 _ o24.view (hs.hasG (k := 4) rfl) _ h63) ?_
    rintro _ w ⟨rfl, hG⟩ a hk
    have hs := hs.call0 hG
    refine sv (.bool (!y62)) hk rfl rfl rfl fun a hk => ?_
    refine sm _ rfl hk rfl rfl rfl fun a hk => ?_
    rcases cond_some H with ⟨c64, H⟩ | ⟨c64, H⟩
    ·have hk := hk.lit 33 c64 rfl
     refine sk hk rfl rfl rfl fun a hk => ?_
     refine sk hk rfl rfl rfl fun a hk => ?_
     refine sk hk rfl rfl rfl fun a hk => ?_
     refine sk hk rfl rfl rfl fun a hk => ?_
     refine sv (.bool true) hk rfl rfl rfl fun a hk => ?_
     refine sm _ rfl hk rfl rfl rfl fun a hk => ?_
     refine sk hk rfl rfl rfl fun a hk => ?_
     refine sk hk rfl rfl rfl fun a hk => ?_
     refine sk hk rfl rfl rfl fun a hk => ?_
     refine sv (.bool true) hk rfl rfl rfl fun a hk => ?_
     show wpList _ _ _ [] _ _
     refine wpList_nil ?_
     obtain rfl := Option.some.inj H
     show R61 _ _
     rw [hR61]
     exact ⟨true, rfl, (hk.c 0 rfl (hk.c 3 rfl (hk.c 4 rfl (hk.c 5 rfl (hk.c 6 rfl (hk.c 7 rfl (hk.c 43 rfl hk.k))))))), (hs.pick [(5, 5), (11, 11), (6, 6), (1, 1), (2, 2), (3, 3), (4, 4), (12, 12), (7, 7), (8, 8), (9, 9), (10, 10)] rfl)⟩
    ·have hk := hk.lit 33 c64 rfl
     refine sm _ rfl hk rfl rfl rfl fun a hk => ?_
     refine sm _ rfl hk rfl rfl rfl fun a hk => ?_
     obtain ⟨y65, h66, H⟩ := bind_some H
     refine sc rfl en30 hk rfl rfl rfl (laws_eqResultS_t _ A49 p50 y31.2.1 _ o52.view (hs.hasG (k := 11) rfl) A25 p26 y7.2.1 _ o28.view (hs.hasG (k := 5) rfl) _ h66) ?_
     rintro _ w ⟨rfl, hG⟩ a hk
     have hs := hs.call0 hG
     refine sv (.bool (!y65)) hk rfl rfl rfl fun a hk => ?_
     refine sv (.bool (!y65)) hk rfl rfl rfl fun a hk => ?_
     refine sm _ rfl hk rfl rfl rfl fun a hk => ?_
     rcases cond_some H with ⟨c67, H⟩ | ⟨c67, H⟩
     ·have hk := hk.lit 39 c67 rfl
      refine sk hk rfl rfl rfl fun a hk => ?_
      refine sk hk rfl rfl rfl fun a hk => ?_
      refine sk hk rfl rfl rfl fun a hk => ?_
      refine sv (.bool true) hk rfl rfl rfl fun a hk => ?_
      show wpList _ _ _ [] _ _
      refine wpList_nil ?_
      obtain rfl := Option.some.inj H
      show R61 _ _
      rw [hR61]
      exact ⟨true, rfl, (hk.c 0 rfl (hk.c 3 rfl (hk.c 4 rfl (hk.c 5 rfl (hk.c 6 rfl (hk.c 7 rfl (hk.c 43 rfl hk.k))))))), (hs.pick [(5, 5), (11, 11), (6, 6), (1, 1), (2, 2), (3, 3), (4, 4), (12, 12), (7, 7), (8, 8), (9, 9), (10, 10)] rfl)⟩
     ·have hk := hk.lit 39 c67 rfl
      refine sm _ rfl hk rfl rfl rfl fun a hk => ?_
      refine sm _ rfl hk rfl rfl rfl fun a hk => ?_
      refine sv (.bool (y31.2.2 != y7.2.2)) hk rfl rfl rfl fun a hk => ?_
      refine sv (.bool (y31.2.2 != y7.2.2)) hk rfl rfl rfl fun a hk => ?_
      show wpList _ _ _ [] _ _
      refine wpList_nil ?_
      obtain rfl := Option.some.inj H
      show R61 _ _
      rw [hR61]
      exact ⟨(y31.2.2 != y7.2.2), rfl, (hk.c 0 rfl (hk.c 3 rfl (hk.c 4 rfl (hk.c 5 rfl (hk.c 6 rfl (hk.c 7 rfl (hk.c 43 rfl hk.k))))))), (hs.pick [(5, 5), (11, 11), (6, 6), (1, 1), (2, 2), (3, 3), (4, 4), (12, 12), (7, 7), (8, 8), (9, 9), (10, 10)] rfl)⟩
   ·intro a w hR0
    rw [hR61] at hR0
    obtain ⟨u57, rfl, hk, hs⟩ := hR0
    have H := HL60
    try dsimp only at H
    refine hK55 _ _ ?_
    rcases cond_some H with ⟨c68, H⟩ | ⟨c68, H⟩
    ·have hk := hk.lit 43 c68 rfl
     refine cnd_true hk rfl rfl ?_
     apply wp_seq_k; intro K69 hK69
     apply wp_region_lit
     refine sa _ rfl hk rfl rfl rfl fun a hk => ?_
     show wpList _ _ _ [] _ _
     refine wpList_nil ?_
     refine hK69 _ _ ?_
     refine wp_ret ?_
     obtain rfl := Option.some.inj H
     exact fin hk _ [(.bool false)] rfl ⟨rfl, trivial⟩ ⟨rfl, (hs.pick [] rfl).dnil⟩
    ·have hk := hk.lit 43 c68 rfl
     refine cnd_false hk rfl rfl ?_
     refine wp_skip ?_
     refine hK54 _ _ ?_
     apply wp_seq_k; intro K70 hK70
     apply wp_region_lit
     refine sa _ rfl hk rfl rfl rfl fun a hk => ?_
     show wpList _ _ _ [] _ _
     refine wpList_nil ?_
     refine hK70 _ _ ?_
     apply wp_seq_k; intro K71 hK71
     apply wp_region_lit
     refine sln [.slice A33 y31.1.Keys.length p34, .slice A37 y31.1.Oram.Pos.length p38, .slice A41 y31.1.Oram.Stash.length p42, .slice A45 y31.1.Oram.Buckets.length p46] rfl hk rfl rfl rfl ag53 sz53 (box_cells hs (k := 12) rfl) fun a hk => ?_
     refine sm _ rfl hk rfl rfl rfl fun a hk => ?_
     obtain ⟨y72, h73, H⟩ := bind_some H
     refine sc rfl en45 hk rfl rfl rfl (laws_markEnc_t _ y31.1 A33 p34 _ o36 A37 p38 _ o40 A41 p42 _ o44 A45 p46 _ o48 1 ((hs.hand [(1, 7), (2, 8), (3, 9), (4, 10)] rfl).dpick [] rfl) _ h73) ?_
     rintro _ w ⟨k74, k77, k80, k83, rfl, ⟨o75, lh76⟩, ⟨o78, lh79⟩, ⟨o81, lh82⟩, ⟨o84, lh85⟩, hG⟩ a hk
     have hs := hs.back [(1, 7), (2, 8), (3, 9), (4, 10)] rfl hG [7, 8, 9, 10] rfl
     have lh86 : y72.2.1.length = y31.1.Keys.length := lh76
     have lh87 : y72.2.2.1.length = y31.1.Oram.Pos.length := lh79
     have lh88 : y72.2.2.2.1.length = y31.1.Oram.Stash.length := lh82
     have lh89 : y72.2.2.2.2.length = y31.1.Oram.Buckets.length := lh85
     refine sa _ rfl hk rfl rfl rfl fun a hk => ?_
     show wpList _ _ _ [] _ _
     refine wpList_nil ?_
     refine hK71 _ _ ?_
     apply wp_seq_k; intro K90 hK90
     apply wp_region_lit
     refine sm _ rfl hk rfl rfl rfl fun a hk => ?_
     refine sm _ rfl hk rfl rfl rfl fun a hk => ?_
     obtain ⟨y91, h92, H⟩ := bind_some H
     refine sc rfl en46 hk rfl rfl rfl (laws_markResultS_t _ A49 p50 y31.2.1 _ o52 y72.1 ((hs.hand [(1, 11)] rfl).dpick [] rfl) _ h92) ?_
     rintro _ w ⟨k93, rfl, ⟨o94, lh95⟩, hG⟩ a hk
     have hs := hs.back [(1, 11)] rfl hG [11] rfl
     have lh96 : y91.2.length = y31.2.1.length := lh95
     refine sa _ rfl hk rfl rfl rfl fun a hk => ?_
     show wpList _ _ _ [] _ _
     refine wpList_nil ?_
     refine hK90 _ _ ?_
     apply wp_seq_k; intro K97 hK97
     apply wp_region_lit
     refine sa _ rfl hk rfl rfl rfl fun a hk => ?_
     show wpList _ _ _ [] _ _
     refine wpList_nil ?_
     refine hK97 _ _ ?_
     apply wp_seq_k; intro K98 hK98
     apply wp_region_lit
     refine sln [.slice A33 y31.1.Keys.length p34, .slice A37 y31.1.Oram.Pos.length p38, .slice A41 y31.1.Oram.Stash.length p42, .slice A45 y31.1.Oram.Buckets.length p46] rfl hk rfl rfl rfl ag53 sz53 (box_cells hs (k := 12) rfl) fun a hk => ?_
     refine sm _ rfl hk rfl rfl rfl fun a hk => ?_
     have hk := hk.re 50 (v' := (.agg #[.slice A33 y72.2.1.length p34, .slice A37 y72.2.2.1.length p38, .slice A41 y72.2.2.2.1.length p42, .slice A45 y72.2.2.2.2.length p46])) rfl (by rw [lh86, lh87, lh88, lh89])
     obtain ⟨y99, h100, H⟩ := bind_some H
     refine sc rfl en47 hk rfl rfl rfl (laws_heldEnc_t _ (⟨y72.2.1, (⟨y72.2.2.1, y72.2.2.2.1, y72.2.2.2.2⟩ : S_Oram)⟩ : S_Enc) A33 p34 _ o75.view (hs.hasG (k := 7) rfl) A37 p38 _ o78.view (hs.hasG (k := 8) rfl) A41 p42 _ o81.view (hs.hasG (k := 9) rfl) A45 p46 _ o84.view (hs.hasG (k := 10) rfl) 1 _ h100) ?_
     rintro _ w ⟨rfl, hG⟩ a hk
     have hs := hs.call0 hG
     refine sa _ rfl hk rfl rfl rfl fun a hk => ?_
     show wpList _ _ _ [] _ _
     refine wpList_nil ?_
     refine hK98 _ _ ?_
     apply wp_seq_k; intro K101 hK101
     apply wp_seq_k; intro K102 hK102
     apply wp_region_lit
     refine sm _ rfl hk rfl rfl rfl fun a hk => ?_
     refine sv (.bool (decide (y99 < 0))) hk rfl rfl rfl fun a hk => ?_
     show wpList _ _ _ [] _ _
     refine wpList_nil ?_
     refine hK102 _ _ ?_
     rcases cond_some H with ⟨c103, H⟩ | ⟨c103, H⟩
     ·have hk := hk.lit 54 c103 rfl
      refine cnd_true hk rfl rfl ?_
      apply wp_seq_k; intro K104 hK104
      apply wp_region_lit
      refine sa _ rfl hk rfl rfl rfl fun a hk => ?_
      show wpList _ _ _ [] _ _
      refine wpList_nil ?_
      refine hK104 _ _ ?_
      refine wp_ret ?_
      obtain rfl := Option.some.inj H
      exact fin hk _ [(.bool false)] rfl ⟨rfl, trivial⟩ ⟨rfl, (hs.pick [] rfl).dnil⟩
     ·have hk := hk.lit 54 c103 rfl
      refine cnd_false hk rfl rfl ?_
      refine wp_skip ?_
      refine hK101 _ _ ?_
      apply wp_seq_k; intro K105 hK105
      apply wp_region_lit
      refine sm _ rfl hk rfl rfl rfl fun a hk => ?_
      refine sm _ rfl hk rfl rfl rfl fun a hk => ?_
      have hk := hk.re 55 (v' := (.slice A49 y91.2.length p50)) rfl (by rw [lh96])
      obtain ⟨y106, h107, H⟩ := bind_some H
      refine sc rfl en48 hk rfl rfl rfl (laws_heldResultS_t _ A49 p50 y91.2 _ o94.view (hs.hasG (k := 11) rfl) y99 _ h107) ?_
      rintro _ w ⟨rfl, hG⟩ a hk
      have hs := hs.call0 hG
      refine sa _ rfl hk rfl rfl rfl fun a hk => ?_
      show wpList _ _ _ [] _ _
      refine wpList_nil ?_
      refine hK105 _ _ ?_
      apply wp_seq_k; intro K108 hK108
      apply wp_seq_k; intro K109 hK109
      apply wp_region_lit
      refine sm _ rfl hk rfl rfl rfl fun a hk => ?_
      refine sv (.bool (decide (y106 < 0))) hk rfl rfl rfl fun a hk => ?_
      show wpList _ _ _ [] _ _
      refine wpList_nil ?_
      refine hK109 _ _ ?_
      rcases cond_some H with ⟨c110, H⟩ | ⟨c110, H⟩
      ·have hk := hk.lit 59 c110 rfl
       refine cnd_true hk rfl rfl ?_
       apply wp_seq_k; intro K111 hK111
       apply wp_region_lit
       refine sa _ rfl hk rfl rfl rfl fun a hk => ?_
       show wpList _ _ _ [] _ _
       refine wpList_nil ?_
       refine hK111 _ _ ?_
       refine wp_ret ?_
       obtain rfl := Option.some.inj H
       exact fin hk _ [(.bool false)] rfl ⟨rfl, trivial⟩ ⟨rfl, (hs.pick [] rfl).dnil⟩
      ·have hk := hk.lit 59 c110 rfl
       refine cnd_false hk rfl rfl ?_
       refine wp_skip ?_
       refine hK108 _ _ ?_
       apply wp_seq_k; intro K112 hK112
       apply wp_seq_k; intro K113 hK113
       apply wp_region_lit
       refine sm _ rfl hk rfl rfl rfl fun a hk => ?_
       refine sm _ rfl hk rfl rfl rfl fun a hk => ?_
       refine sv (.bool (y106 != y91.1)) hk rfl rfl rfl fun a hk => ?_
       show wpList _ _ _ [] _ _
       refine wpList_nil ?_
       refine hK113 _ _ ?_
       rcases cond_some H with ⟨c114, H⟩ | ⟨c114, H⟩
       ·have hk := hk.lit 62 c114 rfl
        refine cnd_true hk rfl rfl ?_
        apply wp_seq_k; intro K115 hK115
        apply wp_region_lit
        refine sa _ rfl hk rfl rfl rfl fun a hk => ?_
        show wpList _ _ _ [] _ _
        refine wpList_nil ?_
        refine hK115 _ _ ?_
        refine wp_ret ?_
        obtain rfl := Option.some.inj H
        exact fin hk _ [(.bool false)] rfl ⟨rfl, trivial⟩ ⟨rfl, (hs.pick [] rfl).dnil⟩
       ·have hk := hk.lit 62 c114 rfl
        refine cnd_false hk rfl rfl ?_
        refine wp_skip ?_
        refine hK112 _ _ ?_
        apply wp_seq_k; intro K116 hK116
        apply wp_region_lit
        refine sm _ rfl hk rfl rfl rfl fun a hk => ?_
        obtain ⟨y117, h118, H⟩ := bind_some H
        refine sc rfl en44 hk rfl rfl rfl (impl_ReadState_t _ x0 _ h118) ?_
        rintro _ w ⟨A119, p120, k121, A123, p124, k125, A127, p128, k129, A131, p132, k133, A135, p136, k137, rfl, o122, o126, o130, o134, o138, hG⟩ a hk
        have hs := hs.call0k hG [14, 15, 16, 17, 18] rfl
        refine sm _ rfl hk rfl rfl rfl fun a hk => ?_
        refine sv (.agg #[.slice A119 y117.1.Keys.length p120, .slice A123 y117.1.Oram.Pos.length p124, .slice A127 y117.1.Oram.Stash.length p128, .slice A131 y117.1.Oram.Buckets.length p132]) hk rfl rfl rfl fun a hk => ?_
        refine sv (.slice A135 y117.2.1.length p136) hk rfl rfl rfl fun a hk => ?_
        refine sv (.int .i64 y117.2.2) hk rfl rfl rfl fun a hk => ?_
        refine salx 19 hs rfl hk rfl rfl ze53 rfl fun b139 w a hk hs => ?_
        refine ssw 19 hs rfl rfl hk rfl rfl rfl rfl sz53 (by simp [Value.oneCell']) rfl fun w a hk hs => ?_
        refine sa _ rfl hk rfl rfl rfl fun a hk => ?_
        refine sa _ rfl hk rfl rfl rfl fun a hk => ?_
        show wpList _ _ _ [] _ _
        refine wpList_nil ?_
        refine hK116 _ _ ?_
        apply wp_seq_k; intro K140 hK140
        apply wp_seq_k; intro K141 hK141
        obtain ⟨o144, h145, HL146⟩ := bind_some H
        clear H
        obtain ⟨R147, hR147⟩ : ∃ R : Act → World → Prop, R = fun a w => ∃ (u143 : Bool), u143 = o144 ∧ Kn [(6, (.pointer (some ⟨b53, 0, none⟩))), (7, (.slice A49 y31.2.1.length p50)), (9, (.int .i64 y91.1)), (83, (.bool u143))] 97 a ∧ Sat [] w0 w [] [(11, k93), (12, [(b53, .cells #[.slice A33 y31.1.Keys.length p34, .slice A37 y31.1.Oram.Pos.length p38, .slice A41 y31.1.Oram.Stash.length p42, .slice A45 y31.1.Oram.Buckets.length p46] 53 (0, 0))]), (7, k74), (8, k77), (9, k80), (10, k83)] := ⟨_, rfl⟩
        refine wp_cutq R147 ?_ ?_
        ·have H := h145
         apply wp_region_lit
         refine sln [.slice A119 y117.1.Keys.length p120, .slice A123 y117.1.Oram.Pos.length p124, .slice A127 y117.1.Oram.Stash.length p128, .slice A131 y117.1.Oram.Buckets.length p132] rfl hk rfl rfl rfl ag53 sz53 (box_cells hs (k := 19) rfl) fun a hk => ?_
         refine sln [.slice A9 y7.1.Keys.length p10, .slice A13 y7.1.Oram.Pos.length p14, .slice A17 y7.1.Oram.Stash.length p18, .slice A21 y7.1.Oram.Buckets.length p22] rfl hk rfl rfl rfl ag53 sz53 (box_cells hs (k := 6) rfl) fun a hk => ?_
         obtain ⟨y148, h149, H⟩ := bind_some H
         refine sc rfl en29 hk rfl rfl rfl (laws_eqEnc_t _ y117.1 A119 p120 _ o122.view (hs.hasG (k := 14) rfl) A123 p124 _ o126.view (hs.hasG (k := 15) rfl) A127 p128 _ o130.view (hs.hasG (k := 16) rfl) A131 p132 _ o134.view (hs.hasG (k := 17) rfl) y7.1 A9 p10 _ o12.view (hs.hasG (k := 1) rfl) A13 p14 _ o16.view (hs.hasG (k := 2) rfl) A17 p18 _ o20.view (hs.hasG (k := 3) rfl) A21 p22 _ o24.view (hs.hasG (k := 4) rfl) _ h149) ?_
         rintro _ w ⟨rfl, hG⟩ a hk
         have hs := hs.call0 hG
         refine sv (.bool (!y148)) hk rfl rfl rfl fun a hk => ?_
         refine sm _ rfl hk rfl rfl rfl fun a hk => ?_
         rcases cond_some H with ⟨c150, H⟩ | ⟨c150, H⟩
         ·have hk := hk.lit 73 c150 rfl
          refine sk hk rfl rfl rfl fun a hk => ?_
          refine sk hk rfl rfl rfl fun a hk => ?_
          refine sk hk rfl rfl rfl fun a hk => ?_
          refine sk hk rfl rfl rfl fun a hk => ?_
          refine sv (.bool true) hk rfl rfl rfl fun a hk => ?_
          refine sm _ rfl hk rfl rfl rfl fun a hk => ?_
          refine sk hk rfl rfl rfl fun a hk => ?_
          refine sk hk rfl rfl rfl fun a hk => ?_
          refine sk hk rfl rfl rfl fun a hk => ?_
          refine sv (.bool true) hk rfl rfl rfl fun a hk => ?_
          show wpList _ _ _ [] _ _
          refine wpList_nil ?_
          obtain rfl := Option.some.inj H
          show R147 _ _
          rw [hR147]
          exact ⟨true, rfl, (hk.c 6 rfl (hk.c 7 rfl (hk.c 9 rfl (hk.c 83 rfl hk.k)))), (hs.pick [(11, 11), (12, 12), (7, 7), (8, 8), (9, 9), (10, 10)] rfl)⟩
         ·have hk := hk.lit 73 c150 rfl
          refine sm _ rfl hk rfl rfl rfl fun a hk => ?_
          refine sm _ rfl hk rfl rfl rfl fun a hk => ?_
          obtain ⟨y151, h152, H⟩ := bind_some H
          refine sc rfl en30 hk rfl rfl rfl (laws_eqResultS_t _ A135 p136 y117.2.1 _ o138.view (hs.hasG (k := 18) rfl) A25 p26 y7.2.1 _ o28.view (hs.hasG (k := 5) rfl) _ h152) ?_
          rintro _ w ⟨rfl, hG⟩ a hk
          have hs := hs.call0 hG
          refine sv (.bool (!y151)) hk rfl rfl rfl fun a hk => ?_
          refine sv (.bool (!y151)) hk rfl rfl rfl fun a hk => ?_
          refine sm _ rfl hk rfl rfl rfl fun a hk => ?_
          rcases cond_some H with ⟨c153, H⟩ | ⟨c153, H⟩
          ·have hk := hk.lit 79 c153 rfl
           refine sk hk rfl rfl rfl fun a hk => ?_
           refine sk hk rfl rfl rfl fun a hk => ?_
           refine sk hk rfl rfl rfl fun a hk => ?_
           refine sv (.bool true) hk rfl rfl rfl fun a hk => ?_
           show wpList _ _ _ [] _ _
           refine wpList_nil ?_
           obtain rfl := Option.some.inj H
           show R147 _ _
           rw [hR147]
           exact ⟨true, rfl, (hk.c 6 rfl (hk.c 7 rfl (hk.c 9 rfl (hk.c 83 rfl hk.k)))), (hs.pick [(11, 11), (12, 12), (7, 7), (8, 8), (9, 9), (10, 10)] rfl)⟩
          ·have hk := hk.lit 79 c153 rfl
           refine sm _ rfl hk rfl rfl rfl fun a hk => ?_
           refine sm _ rfl hk rfl rfl rfl fun a hk => ?_
           refine sv (.bool (y117.2.2 != y7.2.2)) hk rfl rfl rfl fun a hk => ?_
           refine sv (.bool (y117.2.2 != y7.2.2)) hk rfl rfl rfl fun a hk => ?_
           show wpList _ _ _ [] _ _
           refine wpList_nil ?_
           obtain rfl := Option.some.inj H
           show R147 _ _
           rw [hR147]
           exact ⟨(y117.2.2 != y7.2.2), rfl, (hk.c 6 rfl (hk.c 7 rfl (hk.c 9 rfl (hk.c 83 rfl hk.k)))), (hs.pick [(11, 11), (12, 12), (7, 7), (8, 8), (9, 9), (10, 10)] rfl)⟩
        ·intro a w hR0
         rw [hR147] at hR0
         obtain ⟨u143, rfl, hk, hs⟩ := hR0
         have H := HL146
         try dsimp only at H
         refine hK141 _ _ ?_
         rcases cond_some H with ⟨c154, H⟩ | ⟨c154, H⟩
         ·have hk := hk.lit 83 c154 rfl
          refine cnd_true hk rfl rfl ?_
          apply wp_seq_k; intro K155 hK155
          apply wp_region_lit
          refine sa _ rfl hk rfl rfl rfl fun a hk => ?_
          show wpList _ _ _ [] _ _
          refine wpList_nil ?_
          refine hK155 _ _ ?_
          refine wp_ret ?_
          obtain rfl := Option.some.inj H
          exact fin hk _ [(.bool false)] rfl ⟨rfl, trivial⟩ ⟨rfl, (hs.pick [] rfl).dnil⟩
         ·have hk := hk.lit 83 c154 rfl
          refine cnd_false hk rfl rfl ?_
          refine wp_skip ?_
          refine hK140 _ _ ?_
          apply wp_seq_k; intro K156 hK156
          apply wp_region_lit
          refine sa _ rfl hk rfl rfl rfl fun a hk => ?_
          show wpList _ _ _ [] _ _
          refine wpList_nil ?_
          refine hK156 _ _ ?_
          apply wp_seq_k; intro K157 hK157
          apply wp_region_lit
          refine sln [.slice A33 y31.1.Keys.length p34, .slice A37 y31.1.Oram.Pos.length p38, .slice A41 y31.1.Oram.Stash.length p42, .slice A45 y31.1.Oram.Buckets.length p46] rfl hk rfl rfl rfl ag53 sz53 (box_cells hs (k := 12) rfl) fun a hk => ?_
          refine sm _ rfl hk rfl rfl rfl fun a hk => ?_
          have hk := hk.re 84 (v' := (.agg #[.slice A33 y72.2.1.length p34, .slice A37 y72.2.2.1.length p38, .slice A41 y72.2.2.2.1.length p42, .slice A45 y72.2.2.2.2.length p46])) rfl (by rw [lh86, lh87, lh88, lh89])
          obtain ⟨y158, h159, H⟩ := bind_some H
          refine sc rfl en47 hk rfl rfl rfl (laws_heldEnc_t _ (⟨y72.2.1, (⟨y72.2.2.1, y72.2.2.2.1, y72.2.2.2.2⟩ : S_Oram)⟩ : S_Enc) A33 p34 _ o75.view (hs.hasG (k := 7) rfl) A37 p38 _ o78.view (hs.hasG (k := 8) rfl) A41 p42 _ o81.view (hs.hasG (k := 9) rfl) A45 p46 _ o84.view (hs.hasG (k := 10) rfl) 1 _ h159) ?_
          rintro _ w ⟨rfl, hG⟩ a hk
          have hs := hs.call0 hG
          refine sa _ rfl hk rfl rfl rfl fun a hk => ?_
          show wpList _ _ _ [] _ _
          refine wpList_nil ?_
          refine hK157 _ _ ?_
          apply wp_seq_k; intro K160 hK160
          apply wp_seq_k; intro K161 hK161
          apply wp_region_lit
          refine sm _ rfl hk rfl rfl rfl fun a hk => ?_
          refine sv (.bool (decide (y158 < 0))) hk rfl rfl rfl fun a hk => ?_
          show wpList _ _ _ [] _ _
          refine wpList_nil ?_
          refine hK161 _ _ ?_
          rcases cond_some H with ⟨c162, H⟩ | ⟨c162, H⟩
          ·have hk := hk.lit 88 c162 rfl
           refine cnd_true hk rfl rfl ?_
           apply wp_seq_k; intro K163 hK163
           apply wp_region_lit
           refine sa _ rfl hk rfl rfl rfl fun a hk => ?_
           show wpList _ _ _ [] _ _
           refine wpList_nil ?_
           refine hK163 _ _ ?_
           refine wp_ret ?_
           obtain rfl := Option.some.inj H
           exact fin hk _ [(.bool false)] rfl ⟨rfl, trivial⟩ ⟨rfl, (hs.pick [] rfl).dnil⟩
          ·have hk := hk.lit 88 c162 rfl
           refine cnd_false hk rfl rfl ?_
           refine wp_skip ?_
           refine hK160 _ _ ?_
           apply wp_seq_k; intro K164 hK164
           apply wp_region_lit
           refine sm _ rfl hk rfl rfl rfl fun a hk => ?_
           refine sm _ rfl hk rfl rfl rfl fun a hk => ?_
           have hk := hk.re 89 (v' := (.slice A49 y91.2.length p50)) rfl (by rw [lh96])
           obtain ⟨y165, h166, H⟩ := bind_some H
           refine sc rfl en48 hk rfl rfl rfl (laws_heldResultS_t _ A49 p50 y91.2 _ o94.view (hs.hasG (k := 11) rfl) y158 _ h166) ?_
           rintro _ w ⟨rfl, hG⟩ a hk
           have hs := hs.call0 hG
           refine sa _ rfl hk rfl rfl rfl fun a hk => ?_
           show wpList _ _ _ [] _ _
           refine wpList_nil ?_
           refine hK164 _ _ ?_
           apply wp_seq_k; intro K167 hK167
           apply wp_seq_k; intro K168 hK168
           apply wp_region_lit
           refine sm _ rfl hk rfl rfl rfl fun a hk => ?_
           refine sv (.bool (decide (y165 < 0))) hk rfl rfl rfl fun a hk => ?_
           show wpList _ _ _ [] _ _
           refine wpList_nil ?_
           refine hK168 _ _ ?_
           rcases cond_some H with ⟨c169, H⟩ | ⟨c169, H⟩
           ·have hk := hk.lit 93 c169 rfl
            refine cnd_true hk rfl rfl ?_
            apply wp_seq_k; intro K170 hK170
            apply wp_region_lit
            refine sa _ rfl hk rfl rfl rfl fun a hk => ?_
            show wpList _ _ _ [] _ _
            refine wpList_nil ?_
            refine hK170 _ _ ?_
            refine wp_ret ?_
            obtain rfl := Option.some.inj H
            exact fin hk _ [(.bool false)] rfl ⟨rfl, trivial⟩ ⟨rfl, (hs.pick [] rfl).dnil⟩
           ·have hk := hk.lit 93 c169 rfl
            refine cnd_false hk rfl rfl ?_
            refine wp_skip ?_
            refine hK167 _ _ ?_
            apply wp_seq_k; intro K171 hK171
            apply wp_seq_k; intro K172 hK172
            apply wp_region_lit
            refine sm _ rfl hk rfl rfl rfl fun a hk => ?_
            refine sm _ rfl hk rfl rfl rfl fun a hk => ?_
            refine sv (.bool (y165 != y91.1)) hk rfl rfl rfl fun a hk => ?_
            show wpList _ _ _ [] _ _
            refine wpList_nil ?_
            refine hK172 _ _ ?_
            rcases cond_some H with ⟨c173, H⟩ | ⟨c173, H⟩
            ·have hk := hk.lit 96 c173 rfl
             refine cnd_true hk rfl rfl ?_
             apply wp_seq_k; intro K174 hK174
             apply wp_region_lit
             refine sa _ rfl hk rfl rfl rfl fun a hk => ?_
             show wpList _ _ _ [] _ _
             refine wpList_nil ?_
             refine hK174 _ _ ?_
             refine wp_ret ?_
             obtain rfl := Option.some.inj H
             exact fin hk _ [(.bool false)] rfl ⟨rfl, trivial⟩ ⟨rfl, (hs.pick [] rfl).dnil⟩
            ·have hk := hk.lit 96 c173 rfl
             refine cnd_false hk rfl rfl ?_
             refine wp_skip ?_
             refine hK171 _ _ ?_
             apply wp_seq_k; intro K175 hK175
             apply wp_region_lit
             refine sa _ rfl hk rfl rfl rfl fun a hk => ?_
             show wpList _ _ _ [] _ _
             refine wpList_nil ?_
             refine hK175 _ _ ?_
             refine wp_ret ?_
             obtain rfl := Option.some.inj H
             exact fin hk _ [(.bool true)] rfl ⟨rfl, trivial⟩ ⟨rfl, (hs.pick [] rfl).dnil⟩

end Go.Proofs.Ytmgfkpfacdlfbaa
