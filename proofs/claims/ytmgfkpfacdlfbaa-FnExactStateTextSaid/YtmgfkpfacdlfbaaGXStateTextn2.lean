/- Further functions. -/
import Derived.Test.YtmgfkpfacdlfbaaGXStateTextn1
namespace Go.Proofs.Ytmgfkpfacdlfbaa
open Go Go.Z Go.Proofs Go.MuLone Go.ChangeShapes Go.WideShapes Go.ChangeAt Go.RowKit
set_option linter.unusedVariables false
set_option linter.unusedSimpArgs false
noncomputable def impl_blocksInts.s0 (l0 : List S_Block) (u15 : List Int) (u14 : Int) : Option (((List Int) × Int) ⊕ Ex ((List Int)) ((List Int))) :=
  (bif (decide (u14 < (l0.length : Int))) then (if 0 ≤ u14 ∧ u14 < (l0.length : Int) then (if u15.length + ([(l0.getD u14.toNat z_Block).Id, (l0.getD u14.toNat z_Block).Leaf, (l0.getD u14.toNat z_Block).Value]).length ≤ 1073741824 then (some (.inl ((u15 ++ ([(l0.getD u14.toNat z_Block).Id, (l0.getD u14.toNat z_Block).Leaf, (l0.getD u14.toNat z_Block).Value])), (w64 (u14 + 1))))) else none) else none) else (some (.inr (.out u15))))
noncomputable def impl_blocksInts.f (l0 : List S_Block) : Option ((List Int)) :=
  ((loopO (fun s => impl_blocksInts.s0 l0 s.1 s.2) ([(l0.length : Int)], 0)).bind fun o => match o with | .out u20 => (some u20) | .ret r => (some r))
set_option maxRecDepth 100000 in
set_option maxHeartbeats 0 in
theorem impl_blocksInts_t (w0 : World) (A0_ : Option Addr) (p0_ : Nat) (l0 : List S_Block) (k0_ : Chunk) (v0_ : View L_Block A0_ p0_ l0 k0_) (w0_ : Has w0 k0_) (r : (List Int)) (H : impl_blocksInts.f l0 = some r) :
    Calls Try.prog 109 #[.slice A0_ l0.length p0_] w0 (Ret (fun v w => ∃ (A0 : Option Addr) (p0 : Nat) (k0 : Chunk), v = .slice A0 r.length p0 ∧ Own (Lay.int .i64) 3 A0 p0 r k0 ∧ Sat [] w0 w [] [(0, k0)])) := by
  have hs : Sat [] w0 w0 [(1, k0_)] [] := Sat.init w0 [(1, k0_)] [] (by simp only [List.mem_cons, List.not_mem_nil, or_false]; rintro x (rfl) <;> assumption) (by simp) List.nodup_nil (by simp [blks])
  unfold impl_blocksInts.f at H
  refine enter Try.func109 rfl Try.ntmps109 rfl fun a hk => ?_
  apply wp_seq_k; intro K1 hK1
  apply wp_region_lit
  refine sa _ rfl hk rfl rfl rfl fun a hk => ?_
  show wpList _ _ _ [] _ _
  refine wpList_nil ?_
  refine hK1 _ _ ?_
  apply wp_seq_k; intro K2 hK2
  apply wp_region_lit
  refine sm _ rfl hk rfl rfl rfl fun a hk => ?_
  refine sle rfl hk rfl rfl rfl un26 fun a hk => ?_
  refine sbs (L := (Lay.int .i64)) (pv := [(0, (.int .i64 (l0.length : Int)))]) (xs := [(l0.length : Int)]) (ess := [[.int .i64 (l0.length : Int)]]) 2 hs rfl hk rfl rfl rfl un31 (bs3_0 (l0.length : Int)) (AllOwn.cons0 ⟨rfl, rfl⟩ AllOwn.nil) rfl rfl rfl fun b3 k4 w a hk o5 hs => ?_
  refine sa _ rfl hk rfl rfl rfl fun a hk => ?_
  show wpList _ _ _ [] _ _
  refine wpList_nil ?_
  refine hK2 _ _ ?_
  apply wp_seq_k; intro K6 hK6
  apply wp_seq_k; intro K7 hK7
  apply wp_region_lit
  refine sm _ rfl hk rfl rfl rfl fun a hk => ?_
  refine sle rfl hk rfl rfl rfl un26 fun a hk => ?_
  refine sm _ rfl hk rfl rfl rfl fun a hk => ?_
  show wpList _ _ _ [] _ _
  refine wpList_nil ?_
  refine hK7 _ _ ?_
  obtain ⟨o25, h26, HL27⟩ := bind_some H
  clear H
  obtain ⟨R28, hR28⟩ : ∃ R : Act → World → Prop, R = fun a w => ∃ (u20 : List Int) (A23 : Option Addr) (p24 : Nat) (k21 : Chunk), o25 = .out u20 ∧ Kn [(3, (.slice A23 u20.length p24))] 26 a ∧ Sat [] w0 w [(1, k0_)] [(2, k21)] ∧ Own (Lay.int .i64) 3 A23 p24 u20 k21 := ⟨_, rfl⟩
  refine wp_cutq R28 ?_ ?_
  · refine wp_block ?_
    obtain ⟨fu30, h26⟩ := loopO_some h26
    obtain ⟨I29, hI29⟩ : ∃ I : Nat → Act → World → Prop, I = fun fu a w => ∃ (u15 : List Int) (u14 : Int) (A18 : Option Addr) (p19 : Nat) (k16 : Chunk), loopN (fun s => impl_blocksInts.s0 l0 s.1 s.2) fu (u15, u14) = some o25 ∧ Kn [(3, (.slice A18 u15.length p19)), (9, (.slice A0_ l0.length p0_)), (10, (.int .i64 (l0.length : Int))), (11, (.int .i64 u14))] 26 a ∧ Sat [] w0 w [(1, k0_)] [(2, k16)] ∧ Own (Lay.int .i64) 3 A18 p19 u15 k16 := ⟨_, rfl⟩
    refine wp_loop_ghost I29 fu30 ?_ ?_
    · rw [hI29]
      exact ⟨[(l0.length : Int)], 0, (some ⟨b3, 0, none⟩), 1, _, h26, (hk.c 3 rfl (hk.c 9 rfl (hk.c 10 rfl (hk.c 11 rfl hk.k)))), (hs.pick [(2, 2)] rfl), o5⟩
    · clear h26 hk hs
      intro fu30 a w hI0
      rw [hI29] at hI0
      obtain ⟨u15, u14, A18, p19, k16, hi, hk, hs, o17⟩ := hI0
      obtain ⟨x31, H, h32⟩ := loop_round hi
      try dsimp only at H
      unfold impl_blocksInts.s0 at H
      apply wp_seq_k; intro K33 hK33
      apply wp_region_lit
      refine sv (.bool (decide (u14 < (l0.length : Int)))) hk rfl rfl rfl fun a hk => ?_
      show wpList _ _ _ [] _ _
      refine wpList_nil ?_
      refine hK33 _ _ ?_
      apply wp_seq_k; intro K34 hK34
      rcases cond_some H with ⟨c35, H⟩ | ⟨c35, H⟩
      · have hk := hk.lit 12 c35 rfl
        refine cnd_true hk rfl rfl ?_
        refine wp_skip ?_
        refine hK34 _ _ ?_
        apply wp_seq_k; intro K36 hK36
        refine wp_block ?_
        apply wp_seq_k; intro K37 hK37
        apply wp_region_lit
        rcases ite_some H with ⟨c38, H⟩ | ⟨_, H⟩
        rotate_left
        · cases H
        obtain ⟨b39, q40, hAc38⟩ := (v0_).some_ u14 c38.1 c38.2
        refine si rfl hk rfl rfl rfl rfl un26 sz81 c38.1 c38.2 hAc38 fun a hk => ?_
        obtain ⟨_, rfl, e41⟩ := (v0_).at_ z_Block u14 c38.1 c38.2
        refine sln [.int .i64 ((l0.getD u14.toNat z_Block).Id), .int .i64 ((l0.getD u14.toNat z_Block).Leaf), .int .i64 ((l0.getD u14.toNat z_Block).Value)] rfl hk rfl rfl rfl ag81 sz81 (cells_at e41 (hs.hasD (k := 1) rfl)) fun a hk => ?_
        refine salx 4 hs rfl hk rfl rfl ze81 rfl fun b42 w a hk hs => ?_
        refine ssw 4 hs rfl rfl hk rfl rfl rfl rfl sz81 (by simp [Value.oneCell']) rfl fun w a hk hs => ?_
        show wpList _ _ _ [] _ _
        refine wpList_nil ?_
        refine hK37 _ _ ?_
        apply wp_region_lit
        refine sm _ rfl hk rfl rfl rfl fun a hk => ?_
        refine sf ⟨b42, 0, none⟩ rfl hk rfl rfl rfl fd81_0 rfl fun a hk => ?_
        refine sl rfl hk rfl rfl rfl ag3 (box_cell hs (k := 4) rfl rfl) fun a hk => ?_
        refine sf ⟨b42, 1, none⟩ rfl hk rfl rfl rfl fd81_1 rfl fun a hk => ?_
        refine sl rfl hk rfl rfl rfl ag3 (box_cell hs (k := 4) rfl rfl) fun a hk => ?_
        refine sf ⟨b42, 2, none⟩ rfl hk rfl rfl rfl fd81_2 rfl fun a hk => ?_
        refine sl rfl hk rfl rfl rfl ag3 (box_cell hs (k := 4) rfl rfl) fun a hk => ?_
        refine sbs (L := (Lay.int .i64)) (pv := [(0, (.int .i64 ((l0.getD u14.toNat z_Block).Id))), (1, (.int .i64 ((l0.getD u14.toNat z_Block).Leaf))), (2, (.int .i64 ((l0.getD u14.toNat z_Block).Value)))]) (xs := [(l0.getD u14.toNat z_Block).Id, (l0.getD u14.toNat z_Block).Leaf, (l0.getD u14.toNat z_Block).Value]) (ess := [[.int .i64 ((l0.getD u14.toNat z_Block).Id)], [.int .i64 ((l0.getD u14.toNat z_Block).Leaf)], [.int .i64 ((l0.getD u14.toNat z_Block).Value)]]) 5 hs rfl hk rfl rfl rfl un31 (bs3_2 ((l0.getD u14.toNat z_Block).Id) ((l0.getD u14.toNat z_Block).Leaf) ((l0.getD u14.toNat z_Block).Value)) (AllOwn.cons0 ⟨rfl, rfl⟩ (AllOwn.cons0 ⟨rfl, rfl⟩ (AllOwn.cons0 ⟨rfl, rfl⟩ AllOwn.nil))) rfl rfl rfl fun b43 k44 w a hk o45 hs => ?_
        rcases ite_some H with ⟨c46, H⟩ | ⟨_, H⟩
        rotate_left
        · cases H
        refine sap 2 (xs := u15) (ys := [(l0.getD u14.toNat z_Block).Id, (l0.getD u14.toNat z_Block).Leaf, (l0.getD u14.toNat z_Block).Value]) (flat_flat : ((Lay.int .i64)).Flat) hs rfl o17 o45.view (hs.hasG (k := 5) rfl) rfl hk rfl rfl rfl rfl rfl rfl un31 mk3 rfl rfl rfl c46 fun A47 p48 k49 w a hk o50 hs => ?_
        refine sa _ rfl hk rfl rfl rfl fun a hk => ?_
        show wpList _ _ _ [] _ _
        refine wpList_nil ?_
        refine hK36 _ _ ?_
        apply wp_region_lit
        refine sv (.int .i64 (w64 (u14 + 1))) hk rfl rfl rfl fun a hk => ?_
        refine sm _ rfl hk rfl rfl rfl fun a hk => ?_
        show wpList _ _ _ [] _ _
        refine wpList_nil ?_
        obtain rfl := Option.some.inj H
        obtain ⟨m51, hmm51, h32⟩ := h32
        show ∃ n', n' < _ ∧ I29 n' _ _
        refine ⟨m51, hmm51, ?_⟩
        rw [hI29]
        exact ⟨(u15 ++ ([(l0.getD u14.toNat z_Block).Id, (l0.getD u14.toNat z_Block).Leaf, (l0.getD u14.toNat z_Block).Value])), (w64 (u14 + 1)), A47, p48, _, h32, (hk.c 3 rfl (hk.c 9 rfl (hk.c 10 rfl (hk.c 11 rfl hk.k)))), (hs.pick [(2, 2)] rfl), o50⟩
      · have hk := hk.lit 12 c35 rfl
        refine cnd_false hk rfl rfl ?_
        refine wp_exit ?_
        obtain rfl := Option.some.inj H
        show R28 _ _
        rw [hR28]
        exact ⟨u15, A18, p19, _, h32.symm, (hk.c 3 rfl hk.k), (hs.pick [(2, 2)] rfl), o17⟩
  · intro a w hR0
    rw [hR28] at hR0
    obtain ⟨u20, A23, p24, k21, rfl, hk, hs, o22⟩ := hR0
    have H := HL27
    try dsimp only at H
    refine hK6 _ _ ?_
    apply wp_seq_k; intro K52 hK52
    apply wp_region_lit
    refine sm _ rfl hk rfl rfl rfl fun a hk => ?_
    refine sa _ rfl hk rfl rfl rfl fun a hk => ?_
    show wpList _ _ _ [] _ _
    refine wpList_nil ?_
    refine hK52 _ _ ?_
    refine wp_ret ?_
    obtain rfl := Option.some.inj H
    exact fin hk _ [(.slice A23 u20.length p24)] rfl ⟨rfl, trivial⟩ ⟨A23, p24, _, rfl, o22, (hs.pick [(0, 2)] rfl).dnil⟩

noncomputable def slices_Clone_int_int.f (l0 : List Int) : Option (List Int) :=
  (if l0.length ≤ 1073741824 then (some l0) else none)
set_option maxRecDepth 100000 in
set_option maxHeartbeats 0 in
theorem slices_Clone_int_int_t (w0 : World) (A0_ : Option Addr) (p0_ : Nat) (l0 : List Int) (k0_ : Chunk) (v0_ : View (Lay.int .i64) A0_ p0_ l0 k0_) (w0_ : Has w0 k0_) (r : List Int) (H : slices_Clone_int_int.f l0 = some r) :
    Calls Try.prog 118 #[.slice A0_ l0.length p0_] w0 (Ret (fun v w => ∃ (A0 : Option Addr) (p0 : Nat) (k0 : Chunk), v = .slice A0 r.length p0 ∧ Own (Lay.int .i64) 3 A0 p0 r k0 ∧ Sat [] w0 w [] [(0, k0)])) := by
  have hs : Sat [] w0 w0 [(1, k0_)] [] := Sat.init w0 [(1, k0_)] [] (by simp only [List.mem_cons, List.not_mem_nil, or_false]; rintro x (rfl) <;> assumption) (by simp) List.nodup_nil (by simp [blks])
  unfold slices_Clone_int_int.f at H
  rcases ite_some H with ⟨c, H⟩ | ⟨_, H⟩
  rotate_left
  · cases H
  obtain rfl := Option.some.inj H
  refine enter Try.func118 rfl Try.ntmps118 rfl fun a hk => ?_
  apply wp_seq_k; intro K1 hK1
  apply wp_region_lit
  refine sa _ rfl hk rfl rfl rfl fun a hk => ?_
  refine wpList_nil ?_
  refine hK1 _ _ ?_
  apply wp_seq_k; intro K3 hK3
  apply wp_seq_k; intro K2 hK2
  apply wp_region_lit
  refine sm _ rfl hk rfl rfl rfl fun a hk => ?_
  refine snl rfl hk rfl rfl rfl un31 fun a hk => ?_
  refine wpList_nil ?_
  refine hK2 _ _ ?_
  cases A0_ with
  | none =>
    obtain rfl := v0_.none_nil
    refine cnd_true hk rfl rfl ?_
    apply wp_seq_k; intro K4 hK4
    apply wp_region_lit
    refine sa _ rfl hk rfl rfl rfl fun a hk => ?_
    refine wpList_nil ?_
    refine hK4 _ _ ?_
    refine wp_ret ?_
    have hs := hs.addNil 9
    exact fin hk _ [(.slice none 0 0)] rfl ⟨rfl, trivial⟩ ⟨none, 0, [], rfl, Own.nil _ _, (hs.pick [(0, 9)] rfl).dnil⟩
  | some A0_ =>
    refine cnd_false hk rfl rfl ?_
    refine wp_skip ?_
    refine hK3 _ _ ?_
    apply wp_seq_k; intro K5 hK5
    apply wp_region_lit
    refine sbs0 2 (Lay.int .i64) hs rfl hk rfl rfl un31 sz3 fun b k w a hk o hs => ?_
    refine sm _ rfl hk rfl rfl rfl fun a hk => ?_
    refine sap 2 (xs := ([] : List Int)) (ys := l0) (flat_flat : ((Lay.int .i64)).Flat) hs rfl o v0_ (hs.hasD (k := 1) rfl) rfl hk rfl rfl rfl rfl rfl rfl un31 mk3 rfl rfl rfl (by simpa using c) fun A p k w a hk o hs => ?_
    refine sa _ rfl hk rfl rfl rfl fun a hk => ?_
    refine wpList_nil ?_
    refine hK5 _ _ ?_
    refine wp_ret ?_
    exact fin hk _ [(.slice A ([] ++ l0).length p)] rfl ⟨rfl, trivial⟩ ⟨A, p, _, rfl, o, (hs.pick [(0, 2)] rfl).dnil⟩

noncomputable def impl_stateText.s0 (l1 : List S_Result) (u46 : List Int) (u45 : Int) : Option (((List Int) × Int) ⊕ Ex ((List Int)) (ByteArray)) :=
  (bif (decide (u45 < (l1.length : Int))) then (if 0 ≤ u45 ∧ u45 < (l1.length : Int) then (if u46.length + ([(l1.getD u45.toNat z_Result).Code, (((l1.getD u45.toNat z_Result).Values).length : Int)]).length ≤ 1073741824 then (if (u46 ++ ([(l1.getD u45.toNat z_Result).Code, (((l1.getD u45.toNat z_Result).Values).length : Int)])).length + ((l1.getD u45.toNat z_Result).Values).length ≤ 1073741824 then (some (.inl (((u46 ++ ([(l1.getD u45.toNat z_Result).Code, (((l1.getD u45.toNat z_Result).Values).length : Int)])) ++ ((l1.getD u45.toNat z_Result).Values)), (w64 (u45 + 1))))) else none) else none) else none) else (some (.inr (.out u46))))
noncomputable def impl_stateText.f (x0 : S_Enc) (l1 : List S_Result) : Option (ByteArray) :=
  ((slices_Clone_int_int.f x0.Oram.Pos).bind fun y5 => ((impl_blocksInts.f x0.Oram.Stash).bind fun y11 => (if y5.length + y11.length ≤ 1073741824 then (if (y5 ++ y11).length + x0.Keys.length ≤ 1073741824 then (if ((y5 ++ y11) ++ x0.Keys).length + ([(l1.length : Int)]).length ≤ 1073741824 then ((loopO (fun s => impl_stateText.s0 l1 s.1 s.2) ((((y5 ++ y11) ++ x0.Keys) ++ ([(l1.length : Int)])), 0)).bind fun o => match o with | .out u51 => ((impl_textOf.f u51 140).bind fun y93 => (some y93)) | .ret r => (some r)) else none) else none) else none)))
set_option maxRecDepth 100000 in
set_option maxHeartbeats 0 in
theorem impl_stateText_t (w0 : World) (x0 : S_Enc) (A0_0 : Option Addr) (p0_0 : Nat) (k0_0 : Chunk) (v0_0 : View (Lay.int .i64) A0_0 p0_0 x0.Keys k0_0) (w0_0 : Has w0 k0_0) (A0_1 : Option Addr) (p0_1 : Nat) (k0_1 : Chunk) (v0_1 : View (Lay.int .i64) A0_1 p0_1 x0.Oram.Pos k0_1) (w0_1 : Has w0 k0_1) (A0_2 : Option Addr) (p0_2 : Nat) (k0_2 : Chunk) (v0_2 : View L_Block A0_2 p0_2 x0.Oram.Stash k0_2) (w0_2 : Has w0 k0_2) (A0_3 : Option Addr) (p0_3 : Nat) (k0_3 : Chunk) (v0_3 : View (Lay.sl L_Block 81) A0_3 p0_3 x0.Oram.Buckets k0_3) (w0_3 : Has w0 k0_3) (A1_ : Option Addr) (p1_ : Nat) (l1 : List S_Result) (k1_ : Chunk) (v1_ : View L_impl_Result A1_ p1_ l1 k1_) (w1_ : Has w0 k1_) (r : ByteArray) (H : impl_stateText.f x0 l1 = some r) :
    Calls Try.prog 77 #[.agg #[.slice A0_0 x0.Keys.length p0_0, .slice A0_1 x0.Oram.Pos.length p0_1, .slice A0_2 x0.Oram.Stash.length p0_2, .slice A0_3 x0.Oram.Buckets.length p0_3], .slice A1_ l1.length p1_] w0 (Ret (fun v w => v = .string r ∧ Sat [] w0 w [] [])) := by
  have hs : Sat [] w0 w0 [(1, k0_0), (2, k0_1), (3, k0_2), (4, k0_3), (5, k1_)] [] := Sat.init w0 [(1, k0_0), (2, k0_1), (3, k0_2), (4, k0_3), (5, k1_)] [] (by simp only [List.mem_cons, List.not_mem_nil, or_false]; rintro x (rfl | rfl | rfl | rfl | rfl) <;> assumption) (by simp) List.nodup_nil (by simp [blks])
  unfold impl_stateText.f at H
  refine enter Try.func77 rfl Try.ntmps77 rfl fun a hk => ?_
  apply wp_seq_k; intro K1 hK1
  apply wp_region_lit
  refine sbx 6 hs rfl hk rfl rfl rfl rfl fun b2 w a hk hs => ?_
  refine sa _ rfl hk rfl rfl rfl fun a hk => ?_
  show wpList _ _ _ [] _ _
  refine wpList_nil ?_
  refine hK1 _ _ ?_
  apply wp_seq_k; intro K3 hK3
  refine wp_region_tree (.q 0 (.q 1 (.q 2 (.q 4 (.q 5 (.q 6 (.alt 3 (.alt 7 (.alt 8 (.last 9) .stop) .stop) .stop))))))) mo (by kernel_rfl) (hs.pick [(6, 6)] rfl) fun _ => ?_
  have hs := hs.drew
  refine tqst (.pointer (some ⟨b2, 1, none⟩)) hk rfl rfl rfl rfl (fun w hs => sf ⟨b2, 1, none⟩ rfl hk rfl rfl rfl fd53_1 rfl fun a hk => qe hk) fun a hk => ?_
  refine tqst (.pointer (some ⟨b2, 1, none⟩)) hk rfl rfl rfl rfl (fun w hs => sf ⟨b2, 1, none⟩ rfl hk rfl rfl rfl fd51_0 rfl fun a hk => qe hk) fun a hk => ?_
  refine tqst (.slice A0_1 x0.Oram.Pos.length p0_1) hk rfl rfl rfl rfl (fun w hs => sl rfl hk rfl rfl rfl ag31 (box_cell hs (k := 6) rfl rfl) fun a hk => qe hk) fun a hk => ?_
  refine tqst (.pointer (some ⟨b2, 1, none⟩)) hk rfl rfl rfl rfl (fun w hs => sf ⟨b2, 1, none⟩ rfl hk rfl rfl rfl fd53_1 rfl fun a hk => qe hk) fun a hk => ?_
  refine tqst (.pointer (some ⟨b2, 2, none⟩)) hk rfl rfl rfl rfl (fun w hs => sf ⟨b2, 2, none⟩ rfl hk rfl rfl rfl fd51_1 rfl fun a hk => qe hk) fun a hk => ?_
  refine tqst (.slice A0_2 x0.Oram.Stash.length p0_2) hk rfl rfl rfl rfl (fun w hs => sl rfl hk rfl rfl rfl ag26 (box_cell hs (k := 6) rfl rfl) fun a hk => qe hk) fun a hk => ?_
  refine tsst hk rfl rfl (fun K_r4_3 hK_r4_3 w hF => ?_) wt_stop
  have hs := hs.f hF
  obtain ⟨y5, h6, H⟩ := bind_some H
  refine sc rfl en118 hk rfl rfl rfl (slices_Clone_int_int_t _ A0_1 p0_1 x0.Oram.Pos _ v0_1 (hs.hasD (k := 2) rfl) _ h6) ?_
  rintro _ w ⟨A7, p8, k9, rfl, o10, hG⟩ a hk
  have hs := hs.call0k hG [8] rfl
  refine se (hs.pick [(6, 6)] rfl) hk (hK_r4_3 _ _ ?_)
  refine tsst hk rfl rfl (fun K_r4_7 hK_r4_7 w hF => ?_) wt_stop
  have hs := hs.f hF
  obtain ⟨y11, h12, H⟩ := bind_some H
  refine sc rfl en109 hk rfl rfl rfl (impl_blocksInts_t _ A0_2 p0_2 x0.Oram.Stash _ v0_2 (hs.hasD (k := 3) rfl) _ h12) ?_
  rintro _ w ⟨A13, p14, k15, rfl, o16, hG⟩ a hk
  have hs := hs.call0k hG [9] rfl
  refine se (hs.pick [(6, 6)] rfl) hk (hK_r4_7 _ _ ?_)
  refine tsst hk rfl rfl (fun K_r4_8 hK_r4_8 w hF => ?_) wt_stop
  have hs := hs.f hF
  rcases ite_some H with ⟨c17, H⟩ | ⟨_, H⟩
  rotate_left
  · cases H
  refine sap 8 (xs := y5) (ys := y11) (flat_flat : ((Lay.int .i64)).Flat) hs rfl o10 o16.view (hs.hasG (k := 9) rfl) rfl hk rfl rfl rfl rfl rfl rfl un31 mk3 rfl rfl rfl c17 fun A18 p19 k20 w a hk o21 hs => ?_
  refine se (hs.pick [(6, 6)] rfl) hk (hK_r4_8 _ _ ?_)
  refine tlst hk rfl rfl fun K_r4_9 hK_r4_9 w hF => ?_
  have hs := hs.f hF
  refine sa _ rfl hk rfl rfl rfl fun a hk => ?_
  refine se trivial hk (hK_r4_9 _ _ fun w hF => ?_)
  have hs := hs.f hF
  refine hK3 _ _ ?_
  apply wp_seq_k; intro K22 hK22
  apply wp_region_lit
  refine sm _ rfl hk rfl rfl rfl fun a hk => ?_
  refine sf ⟨b2, 0, none⟩ rfl hk rfl rfl rfl fd53_0 rfl fun a hk => ?_
  refine sl rfl hk rfl rfl rfl ag31 (box_cell hs (k := 6) rfl rfl) fun a hk => ?_
  rcases ite_some H with ⟨c23, H⟩ | ⟨_, H⟩
  rotate_left
  · cases H
  refine sap 8 (xs := (y5 ++ y11)) (ys := x0.Keys) (flat_flat : ((Lay.int .i64)).Flat) hs rfl o21 v0_0 (hs.hasD (k := 1) rfl) rfl hk rfl rfl rfl rfl rfl rfl un31 mk3 rfl rfl rfl c23 fun A24 p25 k26 w a hk o27 hs => ?_
  refine sa _ rfl hk rfl rfl rfl fun a hk => ?_
  show wpList _ _ _ [] _ _
  refine wpList_nil ?_
  refine hK22 _ _ ?_
  apply wp_seq_k; intro K28 hK28
  apply wp_region_lit
  refine sm _ rfl hk rfl rfl rfl fun a hk => ?_
  refine sm _ rfl hk rfl rfl rfl fun a hk => ?_
  refine sle rfl hk rfl rfl rfl un55 fun a hk => ?_
  refine sbs (L := (Lay.int .i64)) (pv := [(0, (.int .i64 (l1.length : Int)))]) (xs := [(l1.length : Int)]) (ess := [[.int .i64 (l1.length : Int)]]) 10 hs rfl hk rfl rfl rfl un31 (bs3_0 (l1.length : Int)) (AllOwn.cons0 ⟨rfl, rfl⟩ AllOwn.nil) rfl rfl rfl fun b29 k30 w a hk o31 hs => ?_
  rcases ite_some H with ⟨c32, H⟩ | ⟨_, H⟩
  rotate_left
  · cases H
  refine sap 8 (xs := ((y5 ++ y11) ++ x0.Keys)) (ys := [(l1.length : Int)]) (flat_flat : ((Lay.int .i64)).Flat) hs rfl o27 o31.view (hs.hasG (k := 10) rfl) rfl hk rfl rfl rfl rfl rfl rfl un31 mk3 rfl rfl rfl c32 fun A33 p34 k35 w a hk o36 hs => ?_
  refine sa _ rfl hk rfl rfl rfl fun a hk => ?_
  show wpList _ _ _ [] _ _
  refine wpList_nil ?_
  refine hK28 _ _ ?_
  apply wp_seq_k; intro K37 hK37
  apply wp_seq_k; intro K38 hK38
  apply wp_region_lit
  refine sm _ rfl hk rfl rfl rfl fun a hk => ?_
  refine sle rfl hk rfl rfl rfl un55 fun a hk => ?_
  refine sm _ rfl hk rfl rfl rfl fun a hk => ?_
  show wpList _ _ _ [] _ _
  refine wpList_nil ?_
  refine hK38 _ _ ?_
  obtain ⟨o56, h57, HL58⟩ := bind_some H
  clear H
  obtain ⟨R59, hR59⟩ : ∃ R : Act → World → Prop, R = fun a w => ∃ (u51 : List Int) (A54 : Option Addr) (p55 : Nat) (k52 : Chunk), o56 = .out u51 ∧ Kn [(5, (.slice A54 u51.length p55))] 46 a ∧ Sat [] w0 w [(1, k0_0), (2, k0_1), (3, k0_2), (4, k0_3), (5, k1_)] [(8, k52)] ∧ Own (Lay.int .i64) 3 A54 p55 u51 k52 := ⟨_, rfl⟩
  refine wp_cutq R59 ?_ ?_
  · refine wp_block ?_
    obtain ⟨fu61, h57⟩ := loopO_some h57
    obtain ⟨I60, hI60⟩ : ∃ I : Nat → Act → World → Prop, I = fun fu a w => ∃ (u46 : List Int) (u45 : Int) (A49 : Option Addr) (p50 : Nat) (k47 : Chunk), loopN (fun s => impl_stateText.s0 l1 s.1 s.2) fu (u46, u45) = some o56 ∧ Kn [(5, (.slice A49 u46.length p50)), (26, (.slice A1_ l1.length p1_)), (27, (.int .i64 (l1.length : Int))), (28, (.int .i64 u45))] 46 a ∧ Sat [] w0 w [(1, k0_0), (2, k0_1), (3, k0_2), (4, k0_3), (5, k1_)] [(8, k47)] ∧ Own (Lay.int .i64) 3 A49 p50 u46 k47 := ⟨_, rfl⟩
    refine wp_loop_ghost I60 fu61 ?_ ?_
    · rw [hI60]
      exact ⟨(((y5 ++ y11) ++ x0.Keys) ++ ([(l1.length : Int)])), 0, A33, p34, _, h57, (hk.c 5 rfl (hk.c 26 rfl (hk.c 27 rfl (hk.c 28 rfl hk.k)))), (hs.pick [(8, 8)] rfl), o36⟩
    · clear h57 hk hs
      intro fu61 a w hI0
      rw [hI60] at hI0
      obtain ⟨u46, u45, A49, p50, k47, hi, hk, hs, o48⟩ := hI0
      obtain ⟨x62, H, h63⟩ := loop_round hi
      try dsimp only at H
      unfold impl_stateText.s0 at H
      apply wp_seq_k; intro K64 hK64
      apply wp_region_lit
      refine sv (.bool (decide (u45 < (l1.length : Int)))) hk rfl rfl rfl fun a hk => ?_
      show wpList _ _ _ [] _ _
      refine wpList_nil ?_
      refine hK64 _ _ ?_
      apply wp_seq_k; intro K65 hK65
      rcases cond_some H with ⟨c66, H⟩ | ⟨c66, H⟩
      · have hk := hk.lit 29 c66 rfl
        refine cnd_true hk rfl rfl ?_
        refine wp_skip ?_
        refine hK65 _ _ ?_
        apply wp_seq_k; intro K67 hK67
        refine wp_block ?_
        apply wp_seq_k; intro K68 hK68
        apply wp_region_lit
        rcases ite_some H with ⟨c69, H⟩ | ⟨_, H⟩
        rotate_left
        · cases H
        obtain ⟨b70, q71, hAc69⟩ := (v1_).some_ u45 c69.1 c69.2
        refine si rfl hk rfl rfl rfl rfl un55 sz105 c69.1 c69.2 hAc69 fun a hk => ?_
        obtain ⟨_, ⟨_, _, rfl, rfl, ⟨_, rfl, A73, p74, rfl, v75⟩⟩, e72⟩ := (v1_).at_ z_Result u45 c69.1 c69.2
        refine sln [.int .i64 ((l1.getD u45.toNat z_Result).Code), .slice A73 ((l1.getD u45.toNat z_Result).Values).length p74] rfl hk rfl rfl rfl ag105 sz105 (cells_at e72 (hs.hasD (k := 5) rfl)) fun a hk => ?_
        refine salx 12 hs rfl hk rfl rfl ze105 rfl fun b76 w a hk hs => ?_
        refine ssw 12 hs rfl rfl hk rfl rfl rfl rfl sz105 (by simp [Value.oneCell']) rfl fun w a hk hs => ?_
        show wpList _ _ _ [] _ _
        refine wpList_nil ?_
        refine hK68 _ _ ?_
        refine wp_region_tree (.q 0 (.q 1 (.q 2 (.q 3 (.q 4 (.q 5 (.q 8 (.q 9 (.alt 6 (.alt 7 (.alt 10 (.last 11) .stop) .stop) .stop))))))))) mo (by kernel_rfl) (hs.pick [(12, 12)] rfl) fun _ => ?_
        have hs := hs.drew
        refine tqst (.slice A49 u46.length p50) hk rfl rfl rfl rfl (fun w hs => sm _ rfl hk rfl rfl rfl fun a hk => qe hk) fun a hk => ?_
        refine tqst (.pointer (some ⟨b76, 0, none⟩)) hk rfl rfl rfl rfl (fun w hs => sf ⟨b76, 0, none⟩ rfl hk rfl rfl rfl fd105_0 rfl fun a hk => qe hk) fun a hk => ?_
        refine tqst (.int .i64 ((l1.getD u45.toNat z_Result).Code)) hk rfl rfl rfl rfl (fun w hs => sl rfl hk rfl rfl rfl ag3 (box_cell hs (k := 12) rfl rfl) fun a hk => qe hk) fun a hk => ?_
        refine tqst (.pointer (some ⟨b76, 1, none⟩)) hk rfl rfl rfl rfl (fun w hs => sf ⟨b76, 1, none⟩ rfl hk rfl rfl rfl fd105_1 rfl fun a hk => qe hk) fun a hk => ?_
        refine tqst (.slice A73 ((l1.getD u45.toNat z_Result).Values).length p74) hk rfl rfl rfl rfl (fun w hs => sl rfl hk rfl rfl rfl ag31 (box_cell hs (k := 12) rfl rfl) fun a hk => qe hk) fun a hk => ?_
        refine tqst (.int .i64 (((l1.getD u45.toNat z_Result).Values).length : Int)) hk rfl rfl rfl rfl (fun w hs => sle rfl hk rfl rfl rfl un31 fun a hk => qe hk) fun a hk => ?_
        refine tqst (.pointer (some ⟨b76, 1, none⟩)) hk rfl rfl rfl rfl (fun w hs => sf ⟨b76, 1, none⟩ rfl hk rfl rfl rfl fd105_1 rfl fun a hk => qe hk) fun a hk => ?_
        refine tqst (.slice A73 ((l1.getD u45.toNat z_Result).Values).length p74) hk rfl rfl rfl rfl (fun w hs => sl rfl hk rfl rfl rfl ag31 (box_cell hs (k := 12) rfl rfl) fun a hk => qe hk) fun a hk => ?_
        refine tsst hk rfl rfl (fun K_r77_6 hK_r77_6 w hF => ?_) wt_stop
        have hs := hs.f hF
        refine sbs (L := (Lay.int .i64)) (pv := [(0, (.int .i64 ((l1.getD u45.toNat z_Result).Code))), (1, (.int .i64 (((l1.getD u45.toNat z_Result).Values).length : Int)))]) (xs := [(l1.getD u45.toNat z_Result).Code, (((l1.getD u45.toNat z_Result).Values).length : Int)]) (ess := [[.int .i64 ((l1.getD u45.toNat z_Result).Code)], [.int .i64 (((l1.getD u45.toNat z_Result).Values).length : Int)]]) 14 hs rfl hk rfl rfl rfl un31 (bs3_3 ((l1.getD u45.toNat z_Result).Code) (((l1.getD u45.toNat z_Result).Values).length : Int)) (AllOwn.cons0 ⟨rfl, rfl⟩ (AllOwn.cons0 ⟨rfl, rfl⟩ AllOwn.nil)) rfl rfl rfl fun b78 k79 w a hk o80 hs => ?_
        refine se (hs.pick [(12, 12)] rfl) hk (hK_r77_6 _ _ ?_)
        refine tsst hk rfl rfl (fun K_r77_7 hK_r77_7 w hF => ?_) wt_stop
        have hs := hs.f hF
        rcases ite_some H with ⟨c81, H⟩ | ⟨_, H⟩
        rotate_left
        · cases H
        refine sap 8 (xs := u46) (ys := [(l1.getD u45.toNat z_Result).Code, (((l1.getD u45.toNat z_Result).Values).length : Int)]) (flat_flat : ((Lay.int .i64)).Flat) hs rfl o48 o80.view (hs.hasG (k := 14) rfl) rfl hk rfl rfl rfl rfl rfl rfl un31 mk3 rfl rfl rfl c81 fun A82 p83 k84 w a hk o85 hs => ?_
        refine se (hs.pick [(12, 12)] rfl) hk (hK_r77_7 _ _ ?_)
        refine tsst hk rfl rfl (fun K_r77_10 hK_r77_10 w hF => ?_) wt_stop
        have hs := hs.f hF
        rcases ite_some H with ⟨c86, H⟩ | ⟨_, H⟩
        rotate_left
        · cases H
        refine sap 8 (xs := (u46 ++ ([(l1.getD u45.toNat z_Result).Code, (((l1.getD u45.toNat z_Result).Values).length : Int)]))) (ys := (l1.getD u45.toNat z_Result).Values) (flat_flat : ((Lay.int .i64)).Flat) hs rfl o85 v75 (hs.hasD (k := 5) rfl) rfl hk rfl rfl rfl rfl rfl rfl un31 mk3 rfl rfl rfl c86 fun A87 p88 k89 w a hk o90 hs => ?_
        refine se (hs.pick [(12, 12)] rfl) hk (hK_r77_10 _ _ ?_)
        refine tlst hk rfl rfl fun K_r77_11 hK_r77_11 w hF => ?_
        have hs := hs.f hF
        refine sa _ rfl hk rfl rfl rfl fun a hk => ?_
        refine se trivial hk (hK_r77_11 _ _ fun w hF => ?_)
        have hs := hs.f hF
        refine hK67 _ _ ?_
        apply wp_region_lit
        refine sv (.int .i64 (w64 (u45 + 1))) hk rfl rfl rfl fun a hk => ?_
        refine sm _ rfl hk rfl rfl rfl fun a hk => ?_
        show wpList _ _ _ [] _ _
        refine wpList_nil ?_
        obtain rfl := Option.some.inj H
        obtain ⟨m91, hmm91, h63⟩ := h63
        show ∃ n', n' < _ ∧ I60 n' _ _
        refine ⟨m91, hmm91, ?_⟩
        rw [hI60]
        exact ⟨((u46 ++ ([(l1.getD u45.toNat z_Result).Code, (((l1.getD u45.toNat z_Result).Values).length : Int)])) ++ ((l1.getD u45.toNat z_Result).Values)), (w64 (u45 + 1)), A87, p88, _, h63, (hk.c 5 rfl (hk.c 26 rfl (hk.c 27 rfl (hk.c 28 rfl hk.k)))), (hs.pick [(8, 8)] rfl), o90⟩
      · have hk := hk.lit 29 c66 rfl
        refine cnd_false hk rfl rfl ?_
        refine wp_exit ?_
        obtain rfl := Option.some.inj H
        show R59 _ _
        rw [hR59]
        exact ⟨u46, A49, p50, _, h63.symm, (hk.c 5 rfl hk.k), (hs.pick [(8, 8)] rfl), o48⟩
  · intro a w hR0
    rw [hR59] at hR0
    obtain ⟨u51, A54, p55, k52, rfl, hk, hs, o53⟩ := hR0
    have H := HL58
    try dsimp only at H
    refine hK37 _ _ ?_
    apply wp_seq_k; intro K92 hK92
    apply wp_region_lit
    refine sm _ rfl hk rfl rfl rfl fun a hk => ?_
    obtain ⟨y93, h94, H⟩ := bind_some H
    refine sc rfl en108 hk rfl rfl rfl (impl_textOf_t _ A54 p55 u51 _ o53 140 ((hs.hand [(1, 8)] rfl).dpick [] rfl) _ h94) ?_
    rintro _ w ⟨rfl, hG⟩ a hk
    have hs := hs.back [(1, 8)] rfl hG [] rfl
    refine sa _ rfl hk rfl rfl rfl fun a hk => ?_
    show wpList _ _ _ [] _ _
    refine wpList_nil ?_
    refine hK92 _ _ ?_
    refine wp_ret ?_
    obtain rfl := Option.some.inj H
    exact fin hk _ [(.string y93)] rfl ⟨rfl, trivial⟩ ⟨rfl, (hs.pick [] rfl).dnil⟩

noncomputable def impl_StateText.f (x0 : S_Enc) (l1 : List S_Result) : Option (ByteArray × Int) :=
  (bif (decide ((l1.length : Int) > 4096)) then (some ((⟨#[]⟩ : ByteArray), 2)) else ((((impl_EncOK.f x0).bind fun y14 => (bif (!y14) then (some true) else ((impl_areResults.f l1).bind fun y17 => (some (!y17))))) : Option (Bool)).bind fun u9 => (bif u9 then (some ((⟨#[]⟩ : ByteArray), 1)) else ((impl_stateText.f x0 l1).bind fun y22 => (some (y22, 0))))))
set_option maxRecDepth 100000 in
set_option maxHeartbeats 0 in
theorem impl_StateText_t (w0 : World) (x0 : S_Enc) (A0_0 : Option Addr) (p0_0 : Nat) (k0_0 : Chunk) (v0_0 : View (Lay.int .i64) A0_0 p0_0 x0.Keys k0_0) (w0_0 : Has w0 k0_0) (A0_1 : Option Addr) (p0_1 : Nat) (k0_1 : Chunk) (v0_1 : View (Lay.int .i64) A0_1 p0_1 x0.Oram.Pos k0_1) (w0_1 : Has w0 k0_1) (A0_2 : Option Addr) (p0_2 : Nat) (k0_2 : Chunk) (v0_2 : View L_Block A0_2 p0_2 x0.Oram.Stash k0_2) (w0_2 : Has w0 k0_2) (A0_3 : Option Addr) (p0_3 : Nat) (k0_3 : Chunk) (v0_3 : View (Lay.sl L_Block 81) A0_3 p0_3 x0.Oram.Buckets k0_3) (w0_3 : Has w0 k0_3) (A1_ : Option Addr) (p1_ : Nat) (l1 : List S_Result) (k1_ : Chunk) (v1_ : View L_impl_Result A1_ p1_ l1 k1_) (w1_ : Has w0 k1_) (r : ByteArray × Int) (H : impl_StateText.f x0 l1 = some r) :
    Calls Try.prog 28 #[.agg #[.slice A0_0 x0.Keys.length p0_0, .slice A0_1 x0.Oram.Pos.length p0_1, .slice A0_2 x0.Oram.Stash.length p0_2, .slice A0_3 x0.Oram.Buckets.length p0_3], .slice A1_ l1.length p1_] w0 (Ret (fun v w => v = .tuple #[.string r.1, .int .i64 r.2] ∧ Sat [] w0 w [] [])) := by
  have hs : Sat [] w0 w0 [(1, k0_0), (2, k0_1), (3, k0_2), (4, k0_3), (5, k1_)] [] := Sat.init w0 [(1, k0_0), (2, k0_1), (3, k0_2), (4, k0_3), (5, k1_)] [] (by simp only [List.mem_cons, List.not_mem_nil, or_false]; rintro x (rfl | rfl | rfl | rfl | rfl) <;> assumption) (by simp) List.nodup_nil (by simp [blks])
  unfold impl_StateText.f at H
  refine enter Try.func28 rfl Try.ntmps28 rfl fun a hk => ?_
  apply wp_seq_k; intro K1 hK1
  apply wp_region_lit
  refine sbx 6 hs rfl hk rfl rfl rfl rfl fun b2 w a hk hs => ?_
  refine sa _ rfl hk rfl rfl rfl fun a hk => ?_
  refine sa _ rfl hk rfl rfl rfl fun a hk => ?_
  show wpList _ _ _ [] _ _
  refine wpList_nil ?_
  refine hK1 _ _ ?_
  apply wp_seq_k; intro K3 hK3
  refine wp_block ?_
  apply wp_seq_k; intro K4 hK4
  apply wp_region_lit
  refine sm _ rfl hk rfl rfl rfl fun a hk => ?_
  refine sle rfl hk rfl rfl rfl un55 fun a hk => ?_
  refine sv (.bool (decide ((l1.length : Int) > 4096))) hk rfl rfl rfl fun a hk => ?_
  refine sa _ rfl hk rfl rfl rfl fun a hk => ?_
  show wpList _ _ _ [] _ _
  refine wpList_nil ?_
  refine hK4 _ _ ?_
  rcases cond_some H with ⟨c5, H⟩ | ⟨c5, H⟩
  · have hk := hk.lit 6 c5 rfl
    refine cnd_true hk rfl rfl ?_
    apply wp_seq_k; intro K6 hK6
    apply wp_region_lit
    refine sa _ rfl hk rfl rfl rfl fun a hk => ?_
    refine sa _ rfl hk rfl rfl rfl fun a hk => ?_
    show wpList _ _ _ [] _ _
    refine wpList_nil ?_
    refine hK6 _ _ ?_
    refine wp_ret ?_
    obtain rfl := Option.some.inj H
    exact fin hk _ [(.string (⟨#[]⟩ : ByteArray)), (.int .i64 2)] rfl ⟨rfl, ⟨rfl, trivial⟩⟩ ⟨rfl, (hs.pick [] rfl).dnil⟩
  · have hk := hk.lit 6 c5 rfl
    refine cnd_false hk rfl rfl ?_
    apply wp_seq_k; intro K7 hK7
    obtain ⟨o10, h11, HL12⟩ := bind_some H
    clear H
    obtain ⟨R13, hR13⟩ : ∃ R : Act → World → Prop, R = fun a w => ∃ (u9 : Bool), u9 = o10 ∧ Kn [(1, (.slice A1_ l1.length p1_)), (2, (.pointer (some ⟨b2, 0, none⟩))), (10, (.bool u9))] 22 a ∧ Sat [] w0 w [(1, k0_0), (2, k0_1), (3, k0_2), (4, k0_3), (5, k1_)] [(6, [(b2, .cells #[.slice A0_0 x0.Keys.length p0_0, .slice A0_1 x0.Oram.Pos.length p0_1, .slice A0_2 x0.Oram.Stash.length p0_2, .slice A0_3 x0.Oram.Buckets.length p0_3] 53 (0, 0))])] := ⟨_, rfl⟩
    refine wp_cutq R13 ?_ ?_
    · have H := h11
      apply wp_region_lit
      refine sln [.slice A0_0 x0.Keys.length p0_0, .slice A0_1 x0.Oram.Pos.length p0_1, .slice A0_2 x0.Oram.Stash.length p0_2, .slice A0_3 x0.Oram.Buckets.length p0_3] rfl hk rfl rfl rfl ag53 sz53 (box_cells hs (k := 6) rfl) fun a hk => ?_
      obtain ⟨y14, h15, H⟩ := bind_some H
      refine sc rfl en32 hk rfl rfl rfl (impl_EncOK_t _ x0 A0_0 p0_0 _ v0_0 (hs.hasD (k := 1) rfl) A0_1 p0_1 _ v0_1 (hs.hasD (k := 2) rfl) A0_2 p0_2 _ v0_2 (hs.hasD (k := 3) rfl) A0_3 p0_3 _ v0_3 (hs.hasD (k := 4) rfl) _ h15) ?_
      rintro _ w ⟨rfl, hG⟩ a hk
      have hs := hs.call0 hG
      refine sv (.bool (!y14)) hk rfl rfl rfl fun a hk => ?_
      refine sm _ rfl hk rfl rfl rfl fun a hk => ?_
      rcases cond_some H with ⟨c16, H⟩ | ⟨c16, H⟩
      · have hk := hk.lit 14 c16 rfl
        refine sk hk rfl rfl rfl fun a hk => ?_
        refine sk hk rfl rfl rfl fun a hk => ?_
        refine sk hk rfl rfl rfl fun a hk => ?_
        refine sv (.bool true) hk rfl rfl rfl fun a hk => ?_
        refine sa _ rfl hk rfl rfl rfl fun a hk => ?_
        show wpList _ _ _ [] _ _
        refine wpList_nil ?_
        obtain rfl := Option.some.inj H
        show R13 _ _
        rw [hR13]
        exact ⟨true, rfl, (hk.c 1 rfl (hk.c 2 rfl (hk.c 10 rfl hk.k))), (hs.pick [(6, 6)] rfl)⟩
      · have hk := hk.lit 14 c16 rfl
        refine sm _ rfl hk rfl rfl rfl fun a hk => ?_
        obtain ⟨y17, h18, H⟩ := bind_some H
        refine sc rfl en76 hk rfl rfl rfl (impl_areResults_t _ A1_ p1_ l1 _ v1_ (hs.hasD (k := 5) rfl) _ h18) ?_
        rintro _ w ⟨rfl, hG⟩ a hk
        have hs := hs.call0 hG
        refine sv (.bool (!y17)) hk rfl rfl rfl fun a hk => ?_
        refine sv (.bool (!y17)) hk rfl rfl rfl fun a hk => ?_
        refine sa _ rfl hk rfl rfl rfl fun a hk => ?_
        show wpList _ _ _ [] _ _
        refine wpList_nil ?_
        obtain rfl := Option.some.inj H
        show R13 _ _
        rw [hR13]
        exact ⟨(!y17), rfl, (hk.c 1 rfl (hk.c 2 rfl (hk.c 10 rfl hk.k))), (hs.pick [(6, 6)] rfl)⟩
    · intro a w hR0
      rw [hR13] at hR0
      obtain ⟨u9, rfl, hk, hs⟩ := hR0
      have H := HL12
      try dsimp only at H
      refine hK7 _ _ ?_
      rcases cond_some H with ⟨c19, H⟩ | ⟨c19, H⟩
      · have hk := hk.lit 10 c19 rfl
        refine cnd_true hk rfl rfl ?_
        apply wp_seq_k; intro K20 hK20
        apply wp_region_lit
        refine sa _ rfl hk rfl rfl rfl fun a hk => ?_
        refine sa _ rfl hk rfl rfl rfl fun a hk => ?_
        show wpList _ _ _ [] _ _
        refine wpList_nil ?_
        refine hK20 _ _ ?_
        refine wp_ret ?_
        obtain rfl := Option.some.inj H
        exact fin hk _ [(.string (⟨#[]⟩ : ByteArray)), (.int .i64 1)] rfl ⟨rfl, ⟨rfl, trivial⟩⟩ ⟨rfl, (hs.pick [] rfl).dnil⟩
      · have hk := hk.lit 10 c19 rfl
        refine cnd_false hk rfl rfl ?_
        refine wp_skip ?_
        refine hK3 _ _ ?_
        apply wp_seq_k; intro K21 hK21
        apply wp_region_lit
        refine sln [.slice A0_0 x0.Keys.length p0_0, .slice A0_1 x0.Oram.Pos.length p0_1, .slice A0_2 x0.Oram.Stash.length p0_2, .slice A0_3 x0.Oram.Buckets.length p0_3] rfl hk rfl rfl rfl ag53 sz53 (box_cells hs (k := 6) rfl) fun a hk => ?_
        refine sm _ rfl hk rfl rfl rfl fun a hk => ?_
        obtain ⟨y22, h23, H⟩ := bind_some H
        refine sc rfl en77 hk rfl rfl rfl (impl_stateText_t _ x0 A0_0 p0_0 _ v0_0 (hs.hasD (k := 1) rfl) A0_1 p0_1 _ v0_1 (hs.hasD (k := 2) rfl) A0_2 p0_2 _ v0_2 (hs.hasD (k := 3) rfl) A0_3 p0_3 _ v0_3 (hs.hasD (k := 4) rfl) A1_ p1_ l1 _ v1_ (hs.hasD (k := 5) rfl) _ h23) ?_
        rintro _ w ⟨rfl, hG⟩ a hk
        have hs := hs.call0 hG
        refine sa _ rfl hk rfl rfl rfl fun a hk => ?_
        refine sa _ rfl hk rfl rfl rfl fun a hk => ?_
        show wpList _ _ _ [] _ _
        refine wpList_nil ?_
        refine hK21 _ _ ?_
        refine wp_ret ?_
        obtain rfl := Option.some.inj H
        exact fin hk _ [(.string y22), (.int .i64 0)] rfl ⟨rfl, ⟨rfl, trivial⟩⟩ ⟨rfl, (hs.pick [] rfl).dnil⟩

noncomputable def laws_eqIntS.s0 (l0 : List Int) (l1 : List Int) (u10 : Int) : Option ((Int) ⊕ Ex (Unit) (Bool)) :=
  (bif (decide (u10 < (l0.length : Int))) then (if 0 ≤ u10 ∧ u10 < (l0.length : Int) then (if 0 ≤ u10 ∧ u10 < (l1.length : Int) then (bif ((l0.getD u10.toNat 0) != (l1.getD u10.toNat 0)) then (some (.inr (.ret false))) else (some (.inl (w64 (u10 + 1))))) else none) else none) else (some (.inr (.out ()))))
noncomputable def laws_eqIntS.f (l0 : List Int) (l1 : List Int) : Option (Bool) :=
  (bif ((l0.length : Int) != (l1.length : Int)) then (some false) else ((loopO (fun s => laws_eqIntS.s0 l0 l1 s) 0).bind fun o => match o with | .out _ => (some true) | .ret r => (some r)))
set_option maxRecDepth 100000 in
set_option maxHeartbeats 0 in
theorem laws_eqIntS_t (w0 : World) (A0_ : Option Addr) (p0_ : Nat) (l0 : List Int) (k0_ : Chunk) (v0_ : View (Lay.int .i64) A0_ p0_ l0 k0_) (w0_ : Has w0 k0_) (A1_ : Option Addr) (p1_ : Nat) (l1 : List Int) (k1_ : Chunk) (v1_ : View (Lay.int .i64) A1_ p1_ l1 k1_) (w1_ : Has w0 k1_) (r : Bool) (H : laws_eqIntS.f l0 l1 = some r) :
    Calls Try.prog 22 #[.slice A0_ l0.length p0_, .slice A1_ l1.length p1_] w0 (Ret (fun v w => v = .bool r ∧ Sat [] w0 w [] [])) := by
  have hs : Sat [] w0 w0 [(1, k0_), (2, k1_)] [] := Sat.init w0 [(1, k0_), (2, k1_)] [] (by simp only [List.mem_cons, List.not_mem_nil, or_false]; rintro x (rfl | rfl) <;> assumption) (by simp) List.nodup_nil (by simp [blks])
  unfold laws_eqIntS.f at H
  refine enter Try.func22 rfl Try.ntmps22 rfl fun a hk => ?_
  apply wp_seq_k; intro K1 hK1
  apply wp_region_lit
  refine sa _ rfl hk rfl rfl rfl fun a hk => ?_
  show wpList _ _ _ [] _ _
  refine wpList_nil ?_
  refine hK1 _ _ ?_
  apply wp_seq_k; intro K2 hK2
  apply wp_seq_k; intro K3 hK3
  apply wp_region_lit
  refine sm _ rfl hk rfl rfl rfl fun a hk => ?_
  refine sle rfl hk rfl rfl rfl un31 fun a hk => ?_
  refine sm _ rfl hk rfl rfl rfl fun a hk => ?_
  refine sle rfl hk rfl rfl rfl un31 fun a hk => ?_
  refine sv (.bool ((l0.length : Int) != (l1.length : Int))) hk rfl rfl rfl fun a hk => ?_
  show wpList _ _ _ [] _ _
  refine wpList_nil ?_
  refine hK3 _ _ ?_
  rcases cond_some H with ⟨c4, H⟩ | ⟨c4, H⟩
  · have hk := hk.lit 10 c4 rfl
    refine cnd_true hk rfl rfl ?_
    apply wp_seq_k; intro K5 hK5
    apply wp_region_lit
    refine sa _ rfl hk rfl rfl rfl fun a hk => ?_
    show wpList _ _ _ [] _ _
    refine wpList_nil ?_
    refine hK5 _ _ ?_
    refine wp_ret ?_
    obtain rfl := Option.some.inj H
    exact fin hk _ [(.bool false)] rfl ⟨rfl, trivial⟩ ⟨rfl, (hs.pick [] rfl).dnil⟩
  · have hk := hk.lit 10 c4 rfl
    refine cnd_false hk rfl rfl ?_
    refine wp_skip ?_
    refine hK2 _ _ ?_
    apply wp_seq_k; intro K6 hK6
    apply wp_seq_k; intro K7 hK7
    apply wp_region_lit
    refine sa _ rfl hk rfl rfl rfl fun a hk => ?_
    show wpList _ _ _ [] _ _
    refine wpList_nil ?_
    refine hK7 _ _ ?_
    obtain ⟨o11, h12, HL13⟩ := bind_some H
    clear H
    obtain ⟨R14, hR14⟩ : ∃ R : Act → World → Prop, R = fun a w => o11 = .out () ∧ Kn [] 26 a ∧ Sat [] w0 w [(1, k0_), (2, k1_)] [] := ⟨_, rfl⟩
    refine wp_cutq R14 ?_ ?_
    · refine wp_block ?_
      obtain ⟨fu16, h12⟩ := loopO_some h12
      obtain ⟨I15, hI15⟩ : ∃ I : Nat → Act → World → Prop, I = fun fu a w => ∃ (u10 : Int), loopN (fun s => laws_eqIntS.s0 l0 l1 s) fu u10 = some o11 ∧ Kn [(0, (.slice A0_ l0.length p0_)), (1, (.slice A1_ l1.length p1_)), (5, (.int .i64 u10))] 26 a ∧ Sat [] w0 w [(1, k0_), (2, k1_)] [] := ⟨_, rfl⟩
      refine wp_loop_ghost I15 fu16 ?_ ?_
      · rw [hI15]
        exact ⟨0, h12, (hk.c 0 rfl (hk.c 1 rfl (hk.c 5 rfl hk.k))), (hs.pick [] rfl)⟩
      · clear h12 hk hs
        intro fu16 a w hI0
        rw [hI15] at hI0
        obtain ⟨u10, hi, hk, hs⟩ := hI0
        obtain ⟨x17, H, h18⟩ := loop_round hi
        try dsimp only at H
        unfold laws_eqIntS.s0 at H
        apply wp_seq_k; intro K19 hK19
        apply wp_seq_k; intro K20 hK20
        apply wp_region_lit
        refine sm _ rfl hk rfl rfl rfl fun a hk => ?_
        refine sm _ rfl hk rfl rfl rfl fun a hk => ?_
        refine sle rfl hk rfl rfl rfl un31 fun a hk => ?_
        refine sv (.bool (decide (u10 < (l0.length : Int)))) hk rfl rfl rfl fun a hk => ?_
        show wpList _ _ _ [] _ _
        refine wpList_nil ?_
        refine hK20 _ _ ?_
        rcases cond_some H with ⟨c21, H⟩ | ⟨c21, H⟩
        · have hk := hk.lit 14 c21 rfl
          refine cnd_true hk rfl rfl ?_
          refine wp_skip ?_
          refine hK19 _ _ ?_
          apply wp_seq_k; intro K22 hK22
          refine wp_block ?_
          apply wp_seq_k; intro K23 hK23
          refine wp_region_tree (.q 0 (.q 1 (.q 2 (.q 3 (.q 4 (.alt 5 (.alt 6 (.alt 7 (.alt 8 .done .stop) .stop) .stop) .stop)))))) mo (by kernel_rfl) (hs.pick [] rfl) fun _ => ?_
          have hs := hs.drew
          refine tqst (.slice A0_ l0.length p0_) hk rfl rfl rfl rfl (fun w hs => sm _ rfl hk rfl rfl rfl fun a hk => qe hk) fun a hk => ?_
          refine tqst (.int .i64 u10) hk rfl rfl rfl rfl (fun w hs => sm _ rfl hk rfl rfl rfl fun a hk => qe hk) fun a hk => ?_
          rcases ite_some H with ⟨c25, H⟩ | ⟨_, H⟩
          rotate_left
          · cases H
          obtain ⟨b26, q27, hAc25⟩ := (v0_).some_ u10 c25.1 c25.2
          refine tqst (.pointer (some (padd A0_ (u10.toNat * 1)))) hk rfl rfl rfl rfl (fun w hs => si rfl hk rfl rfl rfl rfl un31 sz3 c25.1 c25.2 hAc25 fun a hk => qe hk) fun a hk => ?_
          obtain ⟨_, rfl, e28⟩ := (v0_).at_ 0 u10 c25.1 c25.2
          refine tqst (.int .i64 (l0.getD u10.toNat 0)) hk rfl rfl rfl rfl (fun w hs => sl (v := (.int .i64 (l0.getD u10.toNat 0))) rfl hk rfl rfl rfl ag3 ((e28 0 _ rfl).cell (hs.hasD (k := 1) rfl)) fun a hk => qe hk) fun a hk => ?_
          refine tqst (.slice A1_ l1.length p1_) hk rfl rfl rfl rfl (fun w hs => sm _ rfl hk rfl rfl rfl fun a hk => qe hk) fun a hk => ?_
          refine tsst hk rfl rfl (fun K_r24_5 hK_r24_5 w hF => ?_) wt_stop
          have hs := hs.f hF
          refine sm _ rfl hk rfl rfl rfl fun a hk => ?_
          refine se (hs.pick [] rfl) hk (hK_r24_5 _ _ ?_)
          refine tsst hk rfl rfl (fun K_r24_6 hK_r24_6 w hF => ?_) wt_stop
          have hs := hs.f hF
          rcases ite_some H with ⟨c29, H⟩ | ⟨_, H⟩
          rotate_left
          · cases H
          obtain ⟨b30, q31, hAc29⟩ := (v1_).some_ u10 c29.1 c29.2
          refine si rfl hk rfl rfl rfl rfl un31 sz3 c29.1 c29.2 hAc29 fun a hk => ?_
          refine se (hs.pick [] rfl) hk (hK_r24_6 _ _ ?_)
          refine tsst hk rfl rfl (fun K_r24_7 hK_r24_7 w hF => ?_) wt_stop
          have hs := hs.f hF
          obtain ⟨_, rfl, e32⟩ := (v1_).at_ 0 u10 c29.1 c29.2
          refine sl (v := (.int .i64 (l1.getD u10.toNat 0))) rfl hk rfl rfl rfl ag3 ((e32 0 _ rfl).cell (hs.hasD (k := 2) rfl)) fun a hk => ?_
          refine se (hs.pick [] rfl) hk (hK_r24_7 _ _ ?_)
          refine tsst hk rfl rfl (fun K_r24_8 hK_r24_8 w hF => ?_) wt_stop
          have hs := hs.f hF
          refine sv (.bool ((l0.getD u10.toNat 0) != (l1.getD u10.toNat 0))) hk rfl rfl rfl fun a hk => ?_
          refine se (hs.pick [] rfl) hk (hK_r24_8 _ _ ?_)
          refine wtl_nil fun w hF _ => ?_
          have hs := hs.f hF
          refine hK23 _ _ ?_
          rcases cond_some H with ⟨c33, H⟩ | ⟨c33, H⟩
          · have hk := hk.lit 25 c33 rfl
            refine cnd_true hk rfl rfl ?_
            apply wp_seq_k; intro K34 hK34
            apply wp_region_lit
            refine sa _ rfl hk rfl rfl rfl fun a hk => ?_
            show wpList _ _ _ [] _ _
            refine wpList_nil ?_
            refine hK34 _ _ ?_
            refine wp_ret ?_
            obtain rfl := Option.some.inj H
            have ho11 := h18
            try dsimp only at ho11
            subst ho11
            have H := HL13
            try dsimp only at H
            obtain rfl := Option.some.inj H
            exact fin hk _ [(.bool false)] rfl ⟨rfl, trivial⟩ ⟨rfl, (hs.pick [] rfl).dnil⟩
          · have hk := hk.lit 25 c33 rfl
            refine cnd_false hk rfl rfl ?_
            refine wp_skip ?_
            refine hK22 _ _ ?_
            apply wp_region_lit
            refine sm _ rfl hk rfl rfl rfl fun a hk => ?_
            refine sv (.int .i64 (w64 (u10 + 1))) hk rfl rfl rfl fun a hk => ?_
            refine sa _ rfl hk rfl rfl rfl fun a hk => ?_
            show wpList _ _ _ [] _ _
            refine wpList_nil ?_
            obtain rfl := Option.some.inj H
            obtain ⟨m35, hmm35, h18⟩ := h18
            show ∃ n', n' < _ ∧ I15 n' _ _
            refine ⟨m35, hmm35, ?_⟩
            rw [hI15]
            exact ⟨(w64 (u10 + 1)), h18, (hk.c 0 rfl (hk.c 1 rfl (hk.c 5 rfl hk.k))), (hs.pick [] rfl)⟩
        · have hk := hk.lit 14 c21 rfl
          refine cnd_false hk rfl rfl ?_
          refine wp_exit ?_
          obtain rfl := Option.some.inj H
          show R14 _ _
          rw [hR14]
          exact ⟨h18.symm, hk.k, (hs.pick [] rfl)⟩
    · intro a w hR0
      rw [hR14] at hR0
      obtain ⟨rfl, hk, hs⟩ := hR0
      have H := HL13
      try dsimp only at H
      refine hK6 _ _ ?_
      apply wp_seq_k; intro K36 hK36
      apply wp_region_lit
      refine sa _ rfl hk rfl rfl rfl fun a hk => ?_
      show wpList _ _ _ [] _ _
      refine wpList_nil ?_
      refine hK36 _ _ ?_
      refine wp_ret ?_
      obtain rfl := Option.some.inj H
      exact fin hk _ [(.bool true)] rfl ⟨rfl, trivial⟩ ⟨rfl, (hs.pick [] rfl).dnil⟩

noncomputable def laws_eqBlock.f (x0 : S_Block) (x1 : S_Block) : Option (Bool) :=
  (bif (x0.Id != x1.Id) then (some false) else (bif (x0.Leaf != x1.Leaf) then (some false) else (bif (x0.Value != x1.Value) then (some false) else (some true))))
set_option maxRecDepth 100000 in
set_option maxHeartbeats 0 in
theorem laws_eqBlock_t (w0 : World) (x0 : S_Block) (x1 : S_Block) (r : Bool) (H : laws_eqBlock.f x0 x1 = some r) :
    Calls Try.prog 59 #[.agg #[.int .i64 x0.Id, .int .i64 x0.Leaf, .int .i64 x0.Value], .agg #[.int .i64 x1.Id, .int .i64 x1.Leaf, .int .i64 x1.Value]] w0 (Ret (fun v w => v = .bool r ∧ Sat [] w0 w [] [])) := by
  have hs : Sat [] w0 w0 [] [] := Sat.init w0 [] [] (by simp) (by simp) List.nodup_nil (by simp [blks])
  unfold laws_eqBlock.f at H
  refine enter Try.func59 rfl Try.ntmps59 rfl fun a hk => ?_
  apply wp_seq_k; intro K1 hK1
  apply wp_region_lit
  refine sbx 1 hs rfl hk rfl rfl rfl rfl fun b2 w a hk hs => ?_
  refine sbx 2 hs rfl hk rfl rfl rfl rfl fun b3 w a hk hs => ?_
  refine sa _ rfl hk rfl rfl rfl fun a hk => ?_
  show wpList _ _ _ [] _ _
  refine wpList_nil ?_
  refine hK1 _ _ ?_
  apply wp_seq_k; intro K4 hK4
  apply wp_seq_k; intro K5 hK5
  apply wp_region_lit
  refine sf ⟨b2, 0, none⟩ rfl hk rfl rfl rfl fd81_0 rfl fun a hk => ?_
  refine sl rfl hk rfl rfl rfl ag3 (box_cell hs (k := 1) rfl rfl) fun a hk => ?_
  refine sf ⟨b3, 0, none⟩ rfl hk rfl rfl rfl fd81_0 rfl fun a hk => ?_
  refine sl rfl hk rfl rfl rfl ag3 (box_cell hs (k := 2) rfl rfl) fun a hk => ?_
  refine sv (.bool (x0.Id != x1.Id)) hk rfl rfl rfl fun a hk => ?_
  show wpList _ _ _ [] _ _
  refine wpList_nil ?_
  refine hK5 _ _ ?_
  rcases cond_some H with ⟨c6, H⟩ | ⟨c6, H⟩
  · have hk := hk.lit 9 c6 rfl
    refine cnd_true hk rfl rfl ?_
    apply wp_seq_k; intro K7 hK7
    apply wp_region_lit
    refine sa _ rfl hk rfl rfl rfl fun a hk => ?_
    show wpList _ _ _ [] _ _
    refine wpList_nil ?_
    refine hK7 _ _ ?_
    refine wp_ret ?_
    obtain rfl := Option.some.inj H
    exact fin hk _ [(.bool false)] rfl ⟨rfl, trivial⟩ ⟨rfl, (hs.pick [] rfl).dnil⟩
  · have hk := hk.lit 9 c6 rfl
    refine cnd_false hk rfl rfl ?_
    refine wp_skip ?_
    refine hK4 _ _ ?_
    apply wp_seq_k; intro K8 hK8
    apply wp_seq_k; intro K9 hK9
    apply wp_region_lit
    refine sf ⟨b2, 1, none⟩ rfl hk rfl rfl rfl fd81_1 rfl fun a hk => ?_
    refine sl rfl hk rfl rfl rfl ag3 (box_cell hs (k := 1) rfl rfl) fun a hk => ?_
    refine sf ⟨b3, 1, none⟩ rfl hk rfl rfl rfl fd81_1 rfl fun a hk => ?_
    refine sl rfl hk rfl rfl rfl ag3 (box_cell hs (k := 2) rfl rfl) fun a hk => ?_
    refine sv (.bool (x0.Leaf != x1.Leaf)) hk rfl rfl rfl fun a hk => ?_
    show wpList _ _ _ [] _ _
    refine wpList_nil ?_
    refine hK9 _ _ ?_
    rcases cond_some H with ⟨c10, H⟩ | ⟨c10, H⟩
    · have hk := hk.lit 14 c10 rfl
      refine cnd_true hk rfl rfl ?_
      apply wp_seq_k; intro K11 hK11
      apply wp_region_lit
      refine sa _ rfl hk rfl rfl rfl fun a hk => ?_
      show wpList _ _ _ [] _ _
      refine wpList_nil ?_
      refine hK11 _ _ ?_
      refine wp_ret ?_
      obtain rfl := Option.some.inj H
      exact fin hk _ [(.bool false)] rfl ⟨rfl, trivial⟩ ⟨rfl, (hs.pick [] rfl).dnil⟩
    · have hk := hk.lit 14 c10 rfl
      refine cnd_false hk rfl rfl ?_
      refine wp_skip ?_
      refine hK8 _ _ ?_
      apply wp_seq_k; intro K12 hK12
      apply wp_seq_k; intro K13 hK13
      apply wp_region_lit
      refine sf ⟨b2, 2, none⟩ rfl hk rfl rfl rfl fd81_2 rfl fun a hk => ?_
      refine sl rfl hk rfl rfl rfl ag3 (box_cell hs (k := 1) rfl rfl) fun a hk => ?_
      refine sf ⟨b3, 2, none⟩ rfl hk rfl rfl rfl fd81_2 rfl fun a hk => ?_
      refine sl rfl hk rfl rfl rfl ag3 (box_cell hs (k := 2) rfl rfl) fun a hk => ?_
      refine sv (.bool (x0.Value != x1.Value)) hk rfl rfl rfl fun a hk => ?_
      show wpList _ _ _ [] _ _
      refine wpList_nil ?_
      refine hK13 _ _ ?_
      rcases cond_some H with ⟨c14, H⟩ | ⟨c14, H⟩
      · have hk := hk.lit 19 c14 rfl
        refine cnd_true hk rfl rfl ?_
        apply wp_seq_k; intro K15 hK15
        apply wp_region_lit
        refine sa _ rfl hk rfl rfl rfl fun a hk => ?_
        show wpList _ _ _ [] _ _
        refine wpList_nil ?_
        refine hK15 _ _ ?_
        refine wp_ret ?_
        obtain rfl := Option.some.inj H
        exact fin hk _ [(.bool false)] rfl ⟨rfl, trivial⟩ ⟨rfl, (hs.pick [] rfl).dnil⟩
      · have hk := hk.lit 19 c14 rfl
        refine cnd_false hk rfl rfl ?_
        refine wp_skip ?_
        refine hK12 _ _ ?_
        apply wp_seq_k; intro K16 hK16
        apply wp_region_lit
        refine sa _ rfl hk rfl rfl rfl fun a hk => ?_
        show wpList _ _ _ [] _ _
        refine wpList_nil ?_
        refine hK16 _ _ ?_
        refine wp_ret ?_
        obtain rfl := Option.some.inj H
        exact fin hk _ [(.bool true)] rfl ⟨rfl, trivial⟩ ⟨rfl, (hs.pick [] rfl).dnil⟩

noncomputable def laws_eqBlockS.s0 (l0 : List S_Block) (l1 : List S_Block) (u10 : Int) : Option ((Int) ⊕ Ex (Unit) (Bool)) :=
  (bif (decide (u10 < (l0.length : Int))) then (if 0 ≤ u10 ∧ u10 < (l0.length : Int) then (if 0 ≤ u10 ∧ u10 < (l1.length : Int) then ((laws_eqBlock.f (l0.getD u10.toNat z_Block) (l1.getD u10.toNat z_Block)).bind fun y33 => (bif (!y33) then (some (.inr (.ret false))) else (some (.inl (w64 (u10 + 1)))))) else none) else none) else (some (.inr (.out ()))))
noncomputable def laws_eqBlockS.f (l0 : List S_Block) (l1 : List S_Block) : Option (Bool) :=
  (bif ((l0.length : Int) != (l1.length : Int)) then (some false) else ((loopO (fun s => laws_eqBlockS.s0 l0 l1 s) 0).bind fun o => match o with | .out _ => (some true) | .ret r => (some r)))
set_option maxRecDepth 100000 in
set_option maxHeartbeats 0 in
theorem laws_eqBlockS_t (w0 : World) (A0_ : Option Addr) (p0_ : Nat) (l0 : List S_Block) (k0_ : Chunk) (v0_ : View L_Block A0_ p0_ l0 k0_) (w0_ : Has w0 k0_) (A1_ : Option Addr) (p1_ : Nat) (l1 : List S_Block) (k1_ : Chunk) (v1_ : View L_Block A1_ p1_ l1 k1_) (w1_ : Has w0 k1_) (r : Bool) (H : laws_eqBlockS.f l0 l1 = some r) :
    Calls Try.prog 15 #[.slice A0_ l0.length p0_, .slice A1_ l1.length p1_] w0 (Ret (fun v w => v = .bool r ∧ Sat [] w0 w [] [])) := by
  have hs : Sat [] w0 w0 [(1, k0_), (2, k1_)] [] := Sat.init w0 [(1, k0_), (2, k1_)] [] (by simp only [List.mem_cons, List.not_mem_nil, or_false]; rintro x (rfl | rfl) <;> assumption) (by simp) List.nodup_nil (by simp [blks])
  unfold laws_eqBlockS.f at H
  refine enter Try.func15 rfl Try.ntmps15 rfl fun a hk => ?_
  apply wp_seq_k; intro K1 hK1
  apply wp_region_lit
  refine sa _ rfl hk rfl rfl rfl fun a hk => ?_
  show wpList _ _ _ [] _ _
  refine wpList_nil ?_
  refine hK1 _ _ ?_
  apply wp_seq_k; intro K2 hK2
  apply wp_seq_k; intro K3 hK3
  apply wp_region_lit
  refine sm _ rfl hk rfl rfl rfl fun a hk => ?_
  refine sle rfl hk rfl rfl rfl un26 fun a hk => ?_
  refine sm _ rfl hk rfl rfl rfl fun a hk => ?_
  refine sle rfl hk rfl rfl rfl un26 fun a hk => ?_
  refine sv (.bool ((l0.length : Int) != (l1.length : Int))) hk rfl rfl rfl fun a hk => ?_
  show wpList _ _ _ [] _ _
  refine wpList_nil ?_
  refine hK3 _ _ ?_
  rcases cond_some H with ⟨c4, H⟩ | ⟨c4, H⟩
  · have hk := hk.lit 10 c4 rfl
    refine cnd_true hk rfl rfl ?_
    apply wp_seq_k; intro K5 hK5
    apply wp_region_lit
    refine sa _ rfl hk rfl rfl rfl fun a hk => ?_
    show wpList _ _ _ [] _ _
    refine wpList_nil ?_
    refine hK5 _ _ ?_
    refine wp_ret ?_
    obtain rfl := Option.some.inj H
    exact fin hk _ [(.bool false)] rfl ⟨rfl, trivial⟩ ⟨rfl, (hs.pick [] rfl).dnil⟩
  · have hk := hk.lit 10 c4 rfl
    refine cnd_false hk rfl rfl ?_
    refine wp_skip ?_
    refine hK2 _ _ ?_
    apply wp_seq_k; intro K6 hK6
    apply wp_seq_k; intro K7 hK7
    apply wp_region_lit
    refine sa _ rfl hk rfl rfl rfl fun a hk => ?_
    show wpList _ _ _ [] _ _
    refine wpList_nil ?_
    refine hK7 _ _ ?_
    obtain ⟨o11, h12, HL13⟩ := bind_some H
    clear H
    obtain ⟨R14, hR14⟩ : ∃ R : Act → World → Prop, R = fun a w => o11 = .out () ∧ Kn [] 27 a ∧ Sat [] w0 w [(1, k0_), (2, k1_)] [] := ⟨_, rfl⟩
    refine wp_cutq R14 ?_ ?_
    · refine wp_block ?_
      obtain ⟨fu16, h12⟩ := loopO_some h12
      obtain ⟨I15, hI15⟩ : ∃ I : Nat → Act → World → Prop, I = fun fu a w => ∃ (u10 : Int), loopN (fun s => laws_eqBlockS.s0 l0 l1 s) fu u10 = some o11 ∧ Kn [(0, (.slice A0_ l0.length p0_)), (1, (.slice A1_ l1.length p1_)), (5, (.int .i64 u10))] 27 a ∧ Sat [] w0 w [(1, k0_), (2, k1_)] [] := ⟨_, rfl⟩
      refine wp_loop_ghost I15 fu16 ?_ ?_
      · rw [hI15]
        exact ⟨0, h12, (hk.c 0 rfl (hk.c 1 rfl (hk.c 5 rfl hk.k))), (hs.pick [] rfl)⟩
      · clear h12 hk hs
        intro fu16 a w hI0
        rw [hI15] at hI0
        obtain ⟨u10, hi, hk, hs⟩ := hI0
        obtain ⟨x17, H, h18⟩ := loop_round hi
        try dsimp only at H
        unfold laws_eqBlockS.s0 at H
        apply wp_seq_k; intro K19 hK19
        apply wp_seq_k; intro K20 hK20
        apply wp_region_lit
        refine sm _ rfl hk rfl rfl rfl fun a hk => ?_
        refine sm _ rfl hk rfl rfl rfl fun a hk => ?_
        refine sle rfl hk rfl rfl rfl un26 fun a hk => ?_
        refine sv (.bool (decide (u10 < (l0.length : Int)))) hk rfl rfl rfl fun a hk => ?_
        show wpList _ _ _ [] _ _
        refine wpList_nil ?_
        refine hK20 _ _ ?_
        rcases cond_some H with ⟨c21, H⟩ | ⟨c21, H⟩
        · have hk := hk.lit 14 c21 rfl
          refine cnd_true hk rfl rfl ?_
          refine wp_skip ?_
          refine hK19 _ _ ?_
          apply wp_seq_k; intro K22 hK22
          refine wp_block ?_
          apply wp_seq_k; intro K23 hK23
          refine wp_region_tree (.q 0 (.q 1 (.q 2 (.q 3 (.q 4 (.alt 5 (.alt 6 (.alt 7 (.alt 8 (.alt 9 .done .stop) .stop) .stop) .stop) .stop)))))) mo (by kernel_rfl) (hs.pick [] rfl) fun _ => ?_
          have hs := hs.drew
          refine tqst (.slice A0_ l0.length p0_) hk rfl rfl rfl rfl (fun w hs => sm _ rfl hk rfl rfl rfl fun a hk => qe hk) fun a hk => ?_
          refine tqst (.int .i64 u10) hk rfl rfl rfl rfl (fun w hs => sm _ rfl hk rfl rfl rfl fun a hk => qe hk) fun a hk => ?_
          rcases ite_some H with ⟨c25, H⟩ | ⟨_, H⟩
          rotate_left
          · cases H
          obtain ⟨b26, q27, hAc25⟩ := (v0_).some_ u10 c25.1 c25.2
          refine tqst (.pointer (some (padd A0_ (u10.toNat * 3)))) hk rfl rfl rfl rfl (fun w hs => si rfl hk rfl rfl rfl rfl un26 sz81 c25.1 c25.2 hAc25 fun a hk => qe hk) fun a hk => ?_
          obtain ⟨_, rfl, e28⟩ := (v0_).at_ z_Block u10 c25.1 c25.2
          refine tqst (.agg #[.int .i64 ((l0.getD u10.toNat z_Block).Id), .int .i64 ((l0.getD u10.toNat z_Block).Leaf), .int .i64 ((l0.getD u10.toNat z_Block).Value)]) hk rfl rfl rfl rfl (fun w hs => sln [.int .i64 ((l0.getD u10.toNat z_Block).Id), .int .i64 ((l0.getD u10.toNat z_Block).Leaf), .int .i64 ((l0.getD u10.toNat z_Block).Value)] rfl hk rfl rfl rfl ag81 sz81 (cells_at e28 (hs.hasD (k := 1) rfl)) fun a hk => qe hk) fun a hk => ?_
          refine tqst (.slice A1_ l1.length p1_) hk rfl rfl rfl rfl (fun w hs => sm _ rfl hk rfl rfl rfl fun a hk => qe hk) fun a hk => ?_
          refine tsst hk rfl rfl (fun K_r24_5 hK_r24_5 w hF => ?_) wt_stop
          have hs := hs.f hF
          refine sm _ rfl hk rfl rfl rfl fun a hk => ?_
          refine se (hs.pick [] rfl) hk (hK_r24_5 _ _ ?_)
          refine tsst hk rfl rfl (fun K_r24_6 hK_r24_6 w hF => ?_) wt_stop
          have hs := hs.f hF
          rcases ite_some H with ⟨c29, H⟩ | ⟨_, H⟩
          rotate_left
          · cases H
          obtain ⟨b30, q31, hAc29⟩ := (v1_).some_ u10 c29.1 c29.2
          refine si rfl hk rfl rfl rfl rfl un26 sz81 c29.1 c29.2 hAc29 fun a hk => ?_
          refine se (hs.pick [] rfl) hk (hK_r24_6 _ _ ?_)
          refine tsst hk rfl rfl (fun K_r24_7 hK_r24_7 w hF => ?_) wt_stop
          have hs := hs.f hF
          obtain ⟨_, rfl, e32⟩ := (v1_).at_ z_Block u10 c29.1 c29.2
          refine sln [.int .i64 ((l1.getD u10.toNat z_Block).Id), .int .i64 ((l1.getD u10.toNat z_Block).Leaf), .int .i64 ((l1.getD u10.toNat z_Block).Value)] rfl hk rfl rfl rfl ag81 sz81 (cells_at e32 (hs.hasD (k := 2) rfl)) fun a hk => ?_
          refine se (hs.pick [] rfl) hk (hK_r24_7 _ _ ?_)
          refine tsst hk rfl rfl (fun K_r24_8 hK_r24_8 w hF => ?_) wt_stop
          have hs := hs.f hF
          obtain ⟨y33, h34, H⟩ := bind_some H
          refine sc rfl en59 hk rfl rfl rfl (laws_eqBlock_t _ (l0.getD u10.toNat z_Block) (l1.getD u10.toNat z_Block) _ h34) ?_
          rintro _ w ⟨rfl, hG⟩ a hk
          have hs := hs.call0 hG
          refine se (hs.pick [] rfl) hk (hK_r24_8 _ _ ?_)
          refine tsst hk rfl rfl (fun K_r24_9 hK_r24_9 w hF => ?_) wt_stop
          have hs := hs.f hF
          refine sv (.bool (!y33)) hk rfl rfl rfl fun a hk => ?_
          refine se (hs.pick [] rfl) hk (hK_r24_9 _ _ ?_)
          refine wtl_nil fun w hF _ => ?_
          have hs := hs.f hF
          refine hK23 _ _ ?_
          rcases cond_some H with ⟨c35, H⟩ | ⟨c35, H⟩
          · have hk := hk.lit 26 c35 rfl
            refine cnd_true hk rfl rfl ?_
            apply wp_seq_k; intro K36 hK36
            apply wp_region_lit
            refine sa _ rfl hk rfl rfl rfl fun a hk => ?_
            show wpList _ _ _ [] _ _
            refine wpList_nil ?_
            refine hK36 _ _ ?_
            refine wp_ret ?_
            obtain rfl := Option.some.inj H
            have ho11 := h18
            try dsimp only at ho11
            subst ho11
            have H := HL13
            try dsimp only at H
            obtain rfl := Option.some.inj H
            exact fin hk _ [(.bool false)] rfl ⟨rfl, trivial⟩ ⟨rfl, (hs.pick [] rfl).dnil⟩
          · have hk := hk.lit 26 c35 rfl
            refine cnd_false hk rfl rfl ?_
            refine wp_skip ?_
            refine hK22 _ _ ?_
            apply wp_region_lit
            refine sm _ rfl hk rfl rfl rfl fun a hk => ?_
            refine sv (.int .i64 (w64 (u10 + 1))) hk rfl rfl rfl fun a hk => ?_
            refine sa _ rfl hk rfl rfl rfl fun a hk => ?_
            show wpList _ _ _ [] _ _
            refine wpList_nil ?_
            obtain rfl := Option.some.inj H
            obtain ⟨m37, hmm37, h18⟩ := h18
            show ∃ n', n' < _ ∧ I15 n' _ _
            refine ⟨m37, hmm37, ?_⟩
            rw [hI15]
            exact ⟨(w64 (u10 + 1)), h18, (hk.c 0 rfl (hk.c 1 rfl (hk.c 5 rfl hk.k))), (hs.pick [] rfl)⟩
        · have hk := hk.lit 14 c21 rfl
          refine cnd_false hk rfl rfl ?_
          refine wp_exit ?_
          obtain rfl := Option.some.inj H
          show R14 _ _
          rw [hR14]
          exact ⟨h18.symm, hk.k, (hs.pick [] rfl)⟩
    · intro a w hR0
      rw [hR14] at hR0
      obtain ⟨rfl, hk, hs⟩ := hR0
      have H := HL13
      try dsimp only at H
      refine hK6 _ _ ?_
      apply wp_seq_k; intro K38 hK38
      apply wp_region_lit
      refine sa _ rfl hk rfl rfl rfl fun a hk => ?_
      show wpList _ _ _ [] _ _
      refine wpList_nil ?_
      refine hK38 _ _ ?_
      refine wp_ret ?_
      obtain rfl := Option.some.inj H
      exact fin hk _ [(.bool true)] rfl ⟨rfl, trivial⟩ ⟨rfl, (hs.pick [] rfl).dnil⟩

noncomputable def laws_eqBlockSS.s0 (l0 : List (List S_Block)) (l1 : List (List S_Block)) (u10 : Int) : Option ((Int) ⊕ Ex (Unit) (Bool)) :=
  (bif (decide (u10 < (l0.length : Int))) then (if 0 ≤ u10 ∧ u10 < (l0.length : Int) then (if 0 ≤ u10 ∧ u10 < (l1.length : Int) then ((laws_eqBlockS.f (l0.getD u10.toNat []) (l1.getD u10.toNat [])).bind fun y39 => (bif (!y39) then (some (.inr (.ret false))) else (some (.inl (w64 (u10 + 1)))))) else none) else none) else (some (.inr (.out ()))))
noncomputable def laws_eqBlockSS.f (l0 : List (List S_Block)) (l1 : List (List S_Block)) : Option (Bool) :=
  (bif ((l0.length : Int) != (l1.length : Int)) then (some false) else ((loopO (fun s => laws_eqBlockSS.s0 l0 l1 s) 0).bind fun o => match o with | .out _ => (some true) | .ret r => (some r)))
set_option maxRecDepth 100000 in
set_option maxHeartbeats 0 in
theorem laws_eqBlockSS_t (w0 : World) (A0_ : Option Addr) (p0_ : Nat) (l0 : List (List S_Block)) (k0_ : Chunk) (v0_ : View (Lay.sl L_Block 81) A0_ p0_ l0 k0_) (w0_ : Has w0 k0_) (A1_ : Option Addr) (p1_ : Nat) (l1 : List (List S_Block)) (k1_ : Chunk) (v1_ : View (Lay.sl L_Block 81) A1_ p1_ l1 k1_) (w1_ : Has w0 k1_) (r : Bool) (H : laws_eqBlockSS.f l0 l1 = some r) :
    Calls Try.prog 125 #[.slice A0_ l0.length p0_, .slice A1_ l1.length p1_] w0 (Ret (fun v w => v = .bool r ∧ Sat [] w0 w [] [])) := by
  have hs : Sat [] w0 w0 [(1, k0_), (2, k1_)] [] := Sat.init w0 [(1, k0_), (2, k1_)] [] (by simp only [List.mem_cons, List.not_mem_nil, or_false]; rintro x (rfl | rfl) <;> assumption) (by simp) List.nodup_nil (by simp [blks])
  unfold laws_eqBlockSS.f at H
  refine enter Try.func125 rfl Try.ntmps125 rfl fun a hk => ?_
  apply wp_seq_k; intro K1 hK1
  apply wp_region_lit
  refine sa _ rfl hk rfl rfl rfl fun a hk => ?_
  show wpList _ _ _ [] _ _
  refine wpList_nil ?_
  refine hK1 _ _ ?_
  apply wp_seq_k; intro K2 hK2
  apply wp_seq_k; intro K3 hK3
  apply wp_region_lit
  refine sm _ rfl hk rfl rfl rfl fun a hk => ?_
  refine sle rfl hk rfl rfl rfl un49 fun a hk => ?_
  refine sm _ rfl hk rfl rfl rfl fun a hk => ?_
  refine sle rfl hk rfl rfl rfl un49 fun a hk => ?_
  refine sv (.bool ((l0.length : Int) != (l1.length : Int))) hk rfl rfl rfl fun a hk => ?_
  show wpList _ _ _ [] _ _
  refine wpList_nil ?_
  refine hK3 _ _ ?_
  rcases cond_some H with ⟨c4, H⟩ | ⟨c4, H⟩
  · have hk := hk.lit 10 c4 rfl
    refine cnd_true hk rfl rfl ?_
    apply wp_seq_k; intro K5 hK5
    apply wp_region_lit
    refine sa _ rfl hk rfl rfl rfl fun a hk => ?_
    show wpList _ _ _ [] _ _
    refine wpList_nil ?_
    refine hK5 _ _ ?_
    refine wp_ret ?_
    obtain rfl := Option.some.inj H
    exact fin hk _ [(.bool false)] rfl ⟨rfl, trivial⟩ ⟨rfl, (hs.pick [] rfl).dnil⟩
  · have hk := hk.lit 10 c4 rfl
    refine cnd_false hk rfl rfl ?_
    refine wp_skip ?_
    refine hK2 _ _ ?_
    apply wp_seq_k; intro K6 hK6
    apply wp_seq_k; intro K7 hK7
    apply wp_region_lit
    refine sa _ rfl hk rfl rfl rfl fun a hk => ?_
    show wpList _ _ _ [] _ _
    refine wpList_nil ?_
    refine hK7 _ _ ?_
    obtain ⟨o11, h12, HL13⟩ := bind_some H
    clear H
    obtain ⟨R14, hR14⟩ : ∃ R : Act → World → Prop, R = fun a w => o11 = .out () ∧ Kn [] 27 a ∧ Sat [] w0 w [(1, k0_), (2, k1_)] [] := ⟨_, rfl⟩
    refine wp_cutq R14 ?_ ?_
    · refine wp_block ?_
      obtain ⟨fu16, h12⟩ := loopO_some h12
      obtain ⟨I15, hI15⟩ : ∃ I : Nat → Act → World → Prop, I = fun fu a w => ∃ (u10 : Int), loopN (fun s => laws_eqBlockSS.s0 l0 l1 s) fu u10 = some o11 ∧ Kn [(0, (.slice A0_ l0.length p0_)), (1, (.slice A1_ l1.length p1_)), (5, (.int .i64 u10))] 27 a ∧ Sat [] w0 w [(1, k0_), (2, k1_)] [] := ⟨_, rfl⟩
      refine wp_loop_ghost I15 fu16 ?_ ?_
      · rw [hI15]
        exact ⟨0, h12, (hk.c 0 rfl (hk.c 1 rfl (hk.c 5 rfl hk.k))), (hs.pick [] rfl)⟩
      · clear h12 hk hs
        intro fu16 a w hI0
        rw [hI15] at hI0
        obtain ⟨u10, hi, hk, hs⟩ := hI0
        obtain ⟨x17, H, h18⟩ := loop_round hi
        try dsimp only at H
        unfold laws_eqBlockSS.s0 at H
        apply wp_seq_k; intro K19 hK19
        apply wp_seq_k; intro K20 hK20
        apply wp_region_lit
        refine sm _ rfl hk rfl rfl rfl fun a hk => ?_
        refine sm _ rfl hk rfl rfl rfl fun a hk => ?_
        refine sle rfl hk rfl rfl rfl un49 fun a hk => ?_
        refine sv (.bool (decide (u10 < (l0.length : Int)))) hk rfl rfl rfl fun a hk => ?_
        show wpList _ _ _ [] _ _
        refine wpList_nil ?_
        refine hK20 _ _ ?_
        rcases cond_some H with ⟨c21, H⟩ | ⟨c21, H⟩
        · have hk := hk.lit 14 c21 rfl
          refine cnd_true hk rfl rfl ?_
          refine wp_skip ?_
          refine hK19 _ _ ?_
          apply wp_seq_k; intro K22 hK22
          refine wp_block ?_
          apply wp_seq_k; intro K23 hK23
          refine wp_region_tree (.q 0 (.q 1 (.q 2 (.q 3 (.q 4 (.alt 5 (.alt 6 (.alt 7 (.alt 8 (.alt 9 .done .stop) .stop) .stop) .stop) .stop)))))) mo (by kernel_rfl) (hs.pick [] rfl) fun _ => ?_
          have hs := hs.drew
          refine tqst (.slice A0_ l0.length p0_) hk rfl rfl rfl rfl (fun w hs => sm _ rfl hk rfl rfl rfl fun a hk => qe hk) fun a hk => ?_
          refine tqst (.int .i64 u10) hk rfl rfl rfl rfl (fun w hs => sm _ rfl hk rfl rfl rfl fun a hk => qe hk) fun a hk => ?_
          rcases ite_some H with ⟨c25, H⟩ | ⟨_, H⟩
          rotate_left
          · cases H
          obtain ⟨b26, q27, hAc25⟩ := (v0_).some_ u10 c25.1 c25.2
          refine tqst (.pointer (some (padd A0_ (u10.toNat * 1)))) hk rfl rfl rfl rfl (fun w hs => si rfl hk rfl rfl rfl rfl un49 sz26 c25.1 c25.2 hAc25 fun a hk => qe hk) fun a hk => ?_
          obtain ⟨_, ⟨_, rfl, A29, p30, rfl, v31⟩, e28⟩ := (v0_).at_ [] u10 c25.1 c25.2
          refine tqst (.slice A29 (l0.getD u10.toNat []).length p30) hk rfl rfl rfl rfl (fun w hs => sl (v := (.slice A29 (l0.getD u10.toNat []).length p30)) rfl hk rfl rfl rfl ag26 ((e28 0 _ rfl).cell (hs.hasD (k := 1) rfl)) fun a hk => qe hk) fun a hk => ?_
          refine tqst (.slice A1_ l1.length p1_) hk rfl rfl rfl rfl (fun w hs => sm _ rfl hk rfl rfl rfl fun a hk => qe hk) fun a hk => ?_
          refine tsst hk rfl rfl (fun K_r24_5 hK_r24_5 w hF => ?_) wt_stop
          have hs := hs.f hF
          refine sm _ rfl hk rfl rfl rfl fun a hk => ?_
          refine se (hs.pick [] rfl) hk (hK_r24_5 _ _ ?_)
          refine tsst hk rfl rfl (fun K_r24_6 hK_r24_6 w hF => ?_) wt_stop
          have hs := hs.f hF
          rcases ite_some H with ⟨c32, H⟩ | ⟨_, H⟩
          rotate_left
          · cases H
          obtain ⟨b33, q34, hAc32⟩ := (v1_).some_ u10 c32.1 c32.2
          refine si rfl hk rfl rfl rfl rfl un49 sz26 c32.1 c32.2 hAc32 fun a hk => ?_
          refine se (hs.pick [] rfl) hk (hK_r24_6 _ _ ?_)
          refine tsst hk rfl rfl (fun K_r24_7 hK_r24_7 w hF => ?_) wt_stop
          have hs := hs.f hF
          obtain ⟨_, ⟨_, rfl, A36, p37, rfl, v38⟩, e35⟩ := (v1_).at_ [] u10 c32.1 c32.2
          refine sl (v := (.slice A36 (l1.getD u10.toNat []).length p37)) rfl hk rfl rfl rfl ag26 ((e35 0 _ rfl).cell (hs.hasD (k := 2) rfl)) fun a hk => ?_
          refine se (hs.pick [] rfl) hk (hK_r24_7 _ _ ?_)
          refine tsst hk rfl rfl (fun K_r24_8 hK_r24_8 w hF => ?_) wt_stop
          have hs := hs.f hF
          obtain ⟨y39, h40, H⟩ := bind_some H
          refine sc rfl en15 hk rfl rfl rfl (laws_eqBlockS_t _ A29 p30 (l0.getD u10.toNat []) _ v31 (hs.hasD (k := 1) rfl) A36 p37 (l1.getD u10.toNat []) _ v38 (hs.hasD (k := 2) rfl) _ h40) ?_
          rintro _ w ⟨rfl, hG⟩ a hk
          have hs := hs.call0 hG
          refine se (hs.pick [] rfl) hk (hK_r24_8 _ _ ?_)
          refine tsst hk rfl rfl (fun K_r24_9 hK_r24_9 w hF => ?_) wt_stop
          have hs := hs.f hF
          refine sv (.bool (!y39)) hk rfl rfl rfl fun a hk => ?_
          refine se (hs.pick [] rfl) hk (hK_r24_9 _ _ ?_)
          refine wtl_nil fun w hF _ => ?_
          have hs := hs.f hF
          refine hK23 _ _ ?_
          rcases cond_some H with ⟨c41, H⟩ | ⟨c41, H⟩
          · have hk := hk.lit 26 c41 rfl
            refine cnd_true hk rfl rfl ?_
            apply wp_seq_k; intro K42 hK42
            apply wp_region_lit
            refine sa _ rfl hk rfl rfl rfl fun a hk => ?_
            show wpList _ _ _ [] _ _
            refine wpList_nil ?_
            refine hK42 _ _ ?_
            refine wp_ret ?_
            obtain rfl := Option.some.inj H
            have ho11 := h18
            try dsimp only at ho11
            subst ho11
            have H := HL13
            try dsimp only at H
            obtain rfl := Option.some.inj H
            exact fin hk _ [(.bool false)] rfl ⟨rfl, trivial⟩ ⟨rfl, (hs.pick [] rfl).dnil⟩
          · have hk := hk.lit 26 c41 rfl
            refine cnd_false hk rfl rfl ?_
            refine wp_skip ?_
            refine hK22 _ _ ?_
            apply wp_region_lit
            refine sm _ rfl hk rfl rfl rfl fun a hk => ?_
            refine sv (.int .i64 (w64 (u10 + 1))) hk rfl rfl rfl fun a hk => ?_
            refine sa _ rfl hk rfl rfl rfl fun a hk => ?_
            show wpList _ _ _ [] _ _
            refine wpList_nil ?_
            obtain rfl := Option.some.inj H
            obtain ⟨m43, hmm43, h18⟩ := h18
            show ∃ n', n' < _ ∧ I15 n' _ _
            refine ⟨m43, hmm43, ?_⟩
            rw [hI15]
            exact ⟨(w64 (u10 + 1)), h18, (hk.c 0 rfl (hk.c 1 rfl (hk.c 5 rfl hk.k))), (hs.pick [] rfl)⟩
        · have hk := hk.lit 14 c21 rfl
          refine cnd_false hk rfl rfl ?_
          refine wp_exit ?_
          obtain rfl := Option.some.inj H
          show R14 _ _
          rw [hR14]
          exact ⟨h18.symm, hk.k, (hs.pick [] rfl)⟩
    · intro a w hR0
      rw [hR14] at hR0
      obtain ⟨rfl, hk, hs⟩ := hR0
      have H := HL13
      try dsimp only at H
      refine hK6 _ _ ?_
      apply wp_seq_k; intro K44 hK44
      apply wp_region_lit
      refine sa _ rfl hk rfl rfl rfl fun a hk => ?_
      show wpList _ _ _ [] _ _
      refine wpList_nil ?_
      refine hK44 _ _ ?_
      refine wp_ret ?_
      obtain rfl := Option.some.inj H
      exact fin hk _ [(.bool true)] rfl ⟨rfl, trivial⟩ ⟨rfl, (hs.pick [] rfl).dnil⟩

noncomputable def laws_eqOram.f (x0 : S_Oram) (x1 : S_Oram) : Option (Bool) :=
  ((laws_eqIntS.f x0.Pos x1.Pos).bind fun y6 => (bif (!y6) then (some false) else ((laws_eqBlockS.f x0.Stash x1.Stash).bind fun y12 => (bif (!y12) then (some false) else ((laws_eqBlockSS.f x0.Buckets x1.Buckets).bind fun y18 => (bif (!y18) then (some false) else (some true)))))))
set_option maxRecDepth 100000 in
set_option maxHeartbeats 0 in
theorem laws_eqOram_t (w0 : World) (x0 : S_Oram) (A0_0 : Option Addr) (p0_0 : Nat) (k0_0 : Chunk) (v0_0 : View (Lay.int .i64) A0_0 p0_0 x0.Pos k0_0) (w0_0 : Has w0 k0_0) (A0_1 : Option Addr) (p0_1 : Nat) (k0_1 : Chunk) (v0_1 : View L_Block A0_1 p0_1 x0.Stash k0_1) (w0_1 : Has w0 k0_1) (A0_2 : Option Addr) (p0_2 : Nat) (k0_2 : Chunk) (v0_2 : View (Lay.sl L_Block 81) A0_2 p0_2 x0.Buckets k0_2) (w0_2 : Has w0 k0_2) (x1 : S_Oram) (A1_0 : Option Addr) (p1_0 : Nat) (k1_0 : Chunk) (v1_0 : View (Lay.int .i64) A1_0 p1_0 x1.Pos k1_0) (w1_0 : Has w0 k1_0) (A1_1 : Option Addr) (p1_1 : Nat) (k1_1 : Chunk) (v1_1 : View L_Block A1_1 p1_1 x1.Stash k1_1) (w1_1 : Has w0 k1_1) (A1_2 : Option Addr) (p1_2 : Nat) (k1_2 : Chunk) (v1_2 : View (Lay.sl L_Block 81) A1_2 p1_2 x1.Buckets k1_2) (w1_2 : Has w0 k1_2) (r : Bool) (H : laws_eqOram.f x0 x1 = some r) :
    Calls Try.prog 78 #[.agg #[.slice A0_0 x0.Pos.length p0_0, .slice A0_1 x0.Stash.length p0_1, .slice A0_2 x0.Buckets.length p0_2], .agg #[.slice A1_0 x1.Pos.length p1_0, .slice A1_1 x1.Stash.length p1_1, .slice A1_2 x1.Buckets.length p1_2]] w0 (Ret (fun v w => v = .bool r ∧ Sat [] w0 w [] [])) := by
  have hs : Sat [] w0 w0 [(1, k0_0), (2, k0_1), (3, k0_2), (4, k1_0), (5, k1_1), (6, k1_2)] [] := Sat.init w0 [(1, k0_0), (2, k0_1), (3, k0_2), (4, k1_0), (5, k1_1), (6, k1_2)] [] (by simp only [List.mem_cons, List.not_mem_nil, or_false]; rintro x (rfl | rfl | rfl | rfl | rfl | rfl) <;> assumption) (by simp) List.nodup_nil (by simp [blks])
  unfold laws_eqOram.f at H
  refine enter Try.func78 rfl Try.ntmps78 rfl fun a hk => ?_
  apply wp_seq_k; intro K1 hK1
  apply wp_region_lit
  refine sbx 7 hs rfl hk rfl rfl rfl rfl fun b2 w a hk hs => ?_
  refine sbx 8 hs rfl hk rfl rfl rfl rfl fun b3 w a hk hs => ?_
  refine sa _ rfl hk rfl rfl rfl fun a hk => ?_
  show wpList _ _ _ [] _ _
  refine wpList_nil ?_
  refine hK1 _ _ ?_
  apply wp_seq_k; intro K4 hK4
  apply wp_seq_k; intro K5 hK5
  apply wp_region_lit
  refine sf ⟨b2, 0, none⟩ rfl hk rfl rfl rfl fd51_0 rfl fun a hk => ?_
  refine sl rfl hk rfl rfl rfl ag31 (box_cell hs (k := 7) rfl rfl) fun a hk => ?_
  refine sf ⟨b3, 0, none⟩ rfl hk rfl rfl rfl fd51_0 rfl fun a hk => ?_
  refine sl rfl hk rfl rfl rfl ag31 (box_cell hs (k := 8) rfl rfl) fun a hk => ?_
  obtain ⟨y6, h7, H⟩ := bind_some H
  refine sc rfl en22 hk rfl rfl rfl (laws_eqIntS_t _ A0_0 p0_0 x0.Pos _ v0_0 (hs.hasD (k := 1) rfl) A1_0 p1_0 x1.Pos _ v1_0 (hs.hasD (k := 4) rfl) _ h7) ?_
  rintro _ w ⟨rfl, hG⟩ a hk
  have hs := hs.call0 hG
  refine sv (.bool (!y6)) hk rfl rfl rfl fun a hk => ?_
  show wpList _ _ _ [] _ _
  refine wpList_nil ?_
  refine hK5 _ _ ?_
  rcases cond_some H with ⟨c8, H⟩ | ⟨c8, H⟩
  · have hk := hk.lit 10 c8 rfl
    refine cnd_true hk rfl rfl ?_
    apply wp_seq_k; intro K9 hK9
    apply wp_region_lit
    refine sa _ rfl hk rfl rfl rfl fun a hk => ?_
    show wpList _ _ _ [] _ _
    refine wpList_nil ?_
    refine hK9 _ _ ?_
    refine wp_ret ?_
    obtain rfl := Option.some.inj H
    exact fin hk _ [(.bool false)] rfl ⟨rfl, trivial⟩ ⟨rfl, (hs.pick [] rfl).dnil⟩
  · have hk := hk.lit 10 c8 rfl
    refine cnd_false hk rfl rfl ?_
    refine wp_skip ?_
    refine hK4 _ _ ?_
    apply wp_seq_k; intro K10 hK10
    apply wp_seq_k; intro K11 hK11
    apply wp_region_lit
    refine sf ⟨b2, 1, none⟩ rfl hk rfl rfl rfl fd51_1 rfl fun a hk => ?_
    refine sl rfl hk rfl rfl rfl ag26 (box_cell hs (k := 7) rfl rfl) fun a hk => ?_
    refine sf ⟨b3, 1, none⟩ rfl hk rfl rfl rfl fd51_1 rfl fun a hk => ?_
    refine sl rfl hk rfl rfl rfl ag26 (box_cell hs (k := 8) rfl rfl) fun a hk => ?_
    obtain ⟨y12, h13, H⟩ := bind_some H
    refine sc rfl en15 hk rfl rfl rfl (laws_eqBlockS_t _ A0_1 p0_1 x0.Stash _ v0_1 (hs.hasD (k := 2) rfl) A1_1 p1_1 x1.Stash _ v1_1 (hs.hasD (k := 5) rfl) _ h13) ?_
    rintro _ w ⟨rfl, hG⟩ a hk
    have hs := hs.call0 hG
    refine sv (.bool (!y12)) hk rfl rfl rfl fun a hk => ?_
    show wpList _ _ _ [] _ _
    refine wpList_nil ?_
    refine hK11 _ _ ?_
    rcases cond_some H with ⟨c14, H⟩ | ⟨c14, H⟩
    · have hk := hk.lit 16 c14 rfl
      refine cnd_true hk rfl rfl ?_
      apply wp_seq_k; intro K15 hK15
      apply wp_region_lit
      refine sa _ rfl hk rfl rfl rfl fun a hk => ?_
      show wpList _ _ _ [] _ _
      refine wpList_nil ?_
      refine hK15 _ _ ?_
      refine wp_ret ?_
      obtain rfl := Option.some.inj H
      exact fin hk _ [(.bool false)] rfl ⟨rfl, trivial⟩ ⟨rfl, (hs.pick [] rfl).dnil⟩
    · have hk := hk.lit 16 c14 rfl
      refine cnd_false hk rfl rfl ?_
      refine wp_skip ?_
      refine hK10 _ _ ?_
      apply wp_seq_k; intro K16 hK16
      apply wp_seq_k; intro K17 hK17
      apply wp_region_lit
      refine sf ⟨b2, 2, none⟩ rfl hk rfl rfl rfl fd51_2 rfl fun a hk => ?_
      refine sl rfl hk rfl rfl rfl ag49 (box_cell hs (k := 7) rfl rfl) fun a hk => ?_
      refine sf ⟨b3, 2, none⟩ rfl hk rfl rfl rfl fd51_2 rfl fun a hk => ?_
      refine sl rfl hk rfl rfl rfl ag49 (box_cell hs (k := 8) rfl rfl) fun a hk => ?_
      obtain ⟨y18, h19, H⟩ := bind_some H
      refine sc rfl en125 hk rfl rfl rfl (laws_eqBlockSS_t _ A0_2 p0_2 x0.Buckets _ v0_2 (hs.hasD (k := 3) rfl) A1_2 p1_2 x1.Buckets _ v1_2 (hs.hasD (k := 6) rfl) _ h19) ?_
      rintro _ w ⟨rfl, hG⟩ a hk
      have hs := hs.call0 hG
      refine sv (.bool (!y18)) hk rfl rfl rfl fun a hk => ?_
      show wpList _ _ _ [] _ _
      refine wpList_nil ?_
      refine hK17 _ _ ?_
      rcases cond_some H with ⟨c20, H⟩ | ⟨c20, H⟩
      · have hk := hk.lit 22 c20 rfl
        refine cnd_true hk rfl rfl ?_
        apply wp_seq_k; intro K21 hK21
        apply wp_region_lit
        refine sa _ rfl hk rfl rfl rfl fun a hk => ?_
        show wpList _ _ _ [] _ _
        refine wpList_nil ?_
        refine hK21 _ _ ?_
        refine wp_ret ?_
        obtain rfl := Option.some.inj H
        exact fin hk _ [(.bool false)] rfl ⟨rfl, trivial⟩ ⟨rfl, (hs.pick [] rfl).dnil⟩
      · have hk := hk.lit 22 c20 rfl
        refine cnd_false hk rfl rfl ?_
        refine wp_skip ?_
        refine hK16 _ _ ?_
        apply wp_seq_k; intro K22 hK22
        apply wp_region_lit
        refine sa _ rfl hk rfl rfl rfl fun a hk => ?_
        show wpList _ _ _ [] _ _
        refine wpList_nil ?_
        refine hK22 _ _ ?_
        refine wp_ret ?_
        obtain rfl := Option.some.inj H
        exact fin hk _ [(.bool true)] rfl ⟨rfl, trivial⟩ ⟨rfl, (hs.pick [] rfl).dnil⟩

noncomputable def laws_eqEnc.f (x0 : S_Enc) (x1 : S_Enc) : Option (Bool) :=
  ((laws_eqIntS.f x0.Keys x1.Keys).bind fun y6 => (bif (!y6) then (some false) else ((laws_eqOram.f x0.Oram x1.Oram).bind fun y12 => (bif (!y12) then (some false) else (some true)))))
set_option maxRecDepth 100000 in
set_option maxHeartbeats 0 in
theorem laws_eqEnc_t (w0 : World) (x0 : S_Enc) (A0_0 : Option Addr) (p0_0 : Nat) (k0_0 : Chunk) (v0_0 : View (Lay.int .i64) A0_0 p0_0 x0.Keys k0_0) (w0_0 : Has w0 k0_0) (A0_1 : Option Addr) (p0_1 : Nat) (k0_1 : Chunk) (v0_1 : View (Lay.int .i64) A0_1 p0_1 x0.Oram.Pos k0_1) (w0_1 : Has w0 k0_1) (A0_2 : Option Addr) (p0_2 : Nat) (k0_2 : Chunk) (v0_2 : View L_Block A0_2 p0_2 x0.Oram.Stash k0_2) (w0_2 : Has w0 k0_2) (A0_3 : Option Addr) (p0_3 : Nat) (k0_3 : Chunk) (v0_3 : View (Lay.sl L_Block 81) A0_3 p0_3 x0.Oram.Buckets k0_3) (w0_3 : Has w0 k0_3) (x1 : S_Enc) (A1_0 : Option Addr) (p1_0 : Nat) (k1_0 : Chunk) (v1_0 : View (Lay.int .i64) A1_0 p1_0 x1.Keys k1_0) (w1_0 : Has w0 k1_0) (A1_1 : Option Addr) (p1_1 : Nat) (k1_1 : Chunk) (v1_1 : View (Lay.int .i64) A1_1 p1_1 x1.Oram.Pos k1_1) (w1_1 : Has w0 k1_1) (A1_2 : Option Addr) (p1_2 : Nat) (k1_2 : Chunk) (v1_2 : View L_Block A1_2 p1_2 x1.Oram.Stash k1_2) (w1_2 : Has w0 k1_2) (A1_3 : Option Addr) (p1_3 : Nat) (k1_3 : Chunk) (v1_3 : View (Lay.sl L_Block 81) A1_3 p1_3 x1.Oram.Buckets k1_3) (w1_3 : Has w0 k1_3) (r : Bool) (H : laws_eqEnc.f x0 x1 = some r) :
    Calls Try.prog 29 #[.agg #[.slice A0_0 x0.Keys.length p0_0, .slice A0_1 x0.Oram.Pos.length p0_1, .slice A0_2 x0.Oram.Stash.length p0_2, .slice A0_3 x0.Oram.Buckets.length p0_3], .agg #[.slice A1_0 x1.Keys.length p1_0, .slice A1_1 x1.Oram.Pos.length p1_1, .slice A1_2 x1.Oram.Stash.length p1_2, .slice A1_3 x1.Oram.Buckets.length p1_3]] w0 (Ret (fun v w => v = .bool r ∧ Sat [] w0 w [] [])) := by
  have hs : Sat [] w0 w0 [(1, k0_0), (2, k0_1), (3, k0_2), (4, k0_3), (5, k1_0), (6, k1_1), (7, k1_2), (8, k1_3)] [] := Sat.init w0 [(1, k0_0), (2, k0_1), (3, k0_2), (4, k0_3), (5, k1_0), (6, k1_1), (7, k1_2), (8, k1_3)] [] (by simp only [List.mem_cons, List.not_mem_nil, or_false]; rintro x (rfl | rfl | rfl | rfl | rfl | rfl | rfl | rfl) <;> assumption) (by simp) List.nodup_nil (by simp [blks])
  unfold laws_eqEnc.f at H
  refine enter Try.func29 rfl Try.ntmps29 rfl fun a hk => ?_
  apply wp_seq_k; intro K1 hK1
  apply wp_region_lit
  refine sbx 9 hs rfl hk rfl rfl rfl rfl fun b2 w a hk hs => ?_
  refine sbx 10 hs rfl hk rfl rfl rfl rfl fun b3 w a hk hs => ?_
  refine sa _ rfl hk rfl rfl rfl fun a hk => ?_
  show wpList _ _ _ [] _ _
  refine wpList_nil ?_
  refine hK1 _ _ ?_
  apply wp_seq_k; intro K4 hK4
  apply wp_seq_k; intro K5 hK5
  apply wp_region_lit
  refine sf ⟨b2, 0, none⟩ rfl hk rfl rfl rfl fd53_0 rfl fun a hk => ?_
  refine sl rfl hk rfl rfl rfl ag31 (box_cell hs (k := 9) rfl rfl) fun a hk => ?_
  refine sf ⟨b3, 0, none⟩ rfl hk rfl rfl rfl fd53_0 rfl fun a hk => ?_
  refine sl rfl hk rfl rfl rfl ag31 (box_cell hs (k := 10) rfl rfl) fun a hk => ?_
  obtain ⟨y6, h7, H⟩ := bind_some H
  refine sc rfl en22 hk rfl rfl rfl (laws_eqIntS_t _ A0_0 p0_0 x0.Keys _ v0_0 (hs.hasD (k := 1) rfl) A1_0 p1_0 x1.Keys _ v1_0 (hs.hasD (k := 5) rfl) _ h7) ?_
  rintro _ w ⟨rfl, hG⟩ a hk
  have hs := hs.call0 hG
  refine sv (.bool (!y6)) hk rfl rfl rfl fun a hk => ?_
  show wpList _ _ _ [] _ _
  refine wpList_nil ?_
  refine hK5 _ _ ?_
  rcases cond_some H with ⟨c8, H⟩ | ⟨c8, H⟩
  · have hk := hk.lit 10 c8 rfl
    refine cnd_true hk rfl rfl ?_
    apply wp_seq_k; intro K9 hK9
    apply wp_region_lit
    refine sa _ rfl hk rfl rfl rfl fun a hk => ?_
    show wpList _ _ _ [] _ _
    refine wpList_nil ?_
    refine hK9 _ _ ?_
    refine wp_ret ?_
    obtain rfl := Option.some.inj H
    exact fin hk _ [(.bool false)] rfl ⟨rfl, trivial⟩ ⟨rfl, (hs.pick [] rfl).dnil⟩
  · have hk := hk.lit 10 c8 rfl
    refine cnd_false hk rfl rfl ?_
    refine wp_skip ?_
    refine hK4 _ _ ?_
    apply wp_seq_k; intro K10 hK10
    apply wp_seq_k; intro K11 hK11
    apply wp_region_lit
    refine sf ⟨b2, 1, none⟩ rfl hk rfl rfl rfl fd53_1 rfl fun a hk => ?_
    refine sln [.slice A0_1 x0.Oram.Pos.length p0_1, .slice A0_2 x0.Oram.Stash.length p0_2, .slice A0_3 x0.Oram.Buckets.length p0_3] rfl hk rfl rfl rfl ag51 sz51 (box_part hs (k := 9) rfl rfl) fun a hk => ?_
    refine sf ⟨b3, 1, none⟩ rfl hk rfl rfl rfl fd53_1 rfl fun a hk => ?_
    refine sln [.slice A1_1 x1.Oram.Pos.length p1_1, .slice A1_2 x1.Oram.Stash.length p1_2, .slice A1_3 x1.Oram.Buckets.length p1_3] rfl hk rfl rfl rfl ag51 sz51 (box_part hs (k := 10) rfl rfl) fun a hk => ?_
    obtain ⟨y12, h13, H⟩ := bind_some H
    refine sc rfl en78 hk rfl rfl rfl (laws_eqOram_t _ x0.Oram A0_1 p0_1 _ v0_1 (hs.hasD (k := 2) rfl) A0_2 p0_2 _ v0_2 (hs.hasD (k := 3) rfl) A0_3 p0_3 _ v0_3 (hs.hasD (k := 4) rfl) x1.Oram A1_1 p1_1 _ v1_1 (hs.hasD (k := 6) rfl) A1_2 p1_2 _ v1_2 (hs.hasD (k := 7) rfl) A1_3 p1_3 _ v1_3 (hs.hasD (k := 8) rfl) _ h13) ?_
    rintro _ w ⟨rfl, hG⟩ a hk
    have hs := hs.call0 hG
    refine sv (.bool (!y12)) hk rfl rfl rfl fun a hk => ?_
    show wpList _ _ _ [] _ _
    refine wpList_nil ?_
    refine hK11 _ _ ?_
    rcases cond_some H with ⟨c14, H⟩ | ⟨c14, H⟩
    · have hk := hk.lit 16 c14 rfl
      refine cnd_true hk rfl rfl ?_
      apply wp_seq_k; intro K15 hK15
      apply wp_region_lit
      refine sa _ rfl hk rfl rfl rfl fun a hk => ?_
      show wpList _ _ _ [] _ _
      refine wpList_nil ?_
      refine hK15 _ _ ?_
      refine wp_ret ?_
      obtain rfl := Option.some.inj H
      exact fin hk _ [(.bool false)] rfl ⟨rfl, trivial⟩ ⟨rfl, (hs.pick [] rfl).dnil⟩
    · have hk := hk.lit 16 c14 rfl
      refine cnd_false hk rfl rfl ?_
      refine wp_skip ?_
      refine hK10 _ _ ?_
      apply wp_seq_k; intro K16 hK16
      apply wp_region_lit
      refine sa _ rfl hk rfl rfl rfl fun a hk => ?_
      show wpList _ _ _ [] _ _
      refine wpList_nil ?_
      refine hK16 _ _ ?_
      refine wp_ret ?_
      obtain rfl := Option.some.inj H
      exact fin hk _ [(.bool true)] rfl ⟨rfl, trivial⟩ ⟨rfl, (hs.pick [] rfl).dnil⟩

noncomputable def laws_eqResult.f (x0 : S_Result) (x1 : S_Result) : Option (Bool) :=
  (bif (x0.Code != x1.Code) then (some false) else ((laws_eqIntS.f x0.Values x1.Values).bind fun y10 => (bif (!y10) then (some false) else (some true))))
set_option maxRecDepth 100000 in
set_option maxHeartbeats 0 in
theorem laws_eqResult_t (w0 : World) (x0 : S_Result) (A0_0 : Option Addr) (p0_0 : Nat) (k0_0 : Chunk) (v0_0 : View (Lay.int .i64) A0_0 p0_0 x0.Values k0_0) (w0_0 : Has w0 k0_0) (x1 : S_Result) (A1_0 : Option Addr) (p1_0 : Nat) (k1_0 : Chunk) (v1_0 : View (Lay.int .i64) A1_0 p1_0 x1.Values k1_0) (w1_0 : Has w0 k1_0) (r : Bool) (H : laws_eqResult.f x0 x1 = some r) :
    Calls Try.prog 79 #[.agg #[.int .i64 x0.Code, .slice A0_0 x0.Values.length p0_0], .agg #[.int .i64 x1.Code, .slice A1_0 x1.Values.length p1_0]] w0 (Ret (fun v w => v = .bool r ∧ Sat [] w0 w [] [])) := by
  have hs : Sat [] w0 w0 [(1, k0_0), (2, k1_0)] [] := Sat.init w0 [(1, k0_0), (2, k1_0)] [] (by simp only [List.mem_cons, List.not_mem_nil, or_false]; rintro x (rfl | rfl) <;> assumption) (by simp) List.nodup_nil (by simp [blks])
  unfold laws_eqResult.f at H
  refine enter Try.func79 rfl Try.ntmps79 rfl fun a hk => ?_
  apply wp_seq_k; intro K1 hK1
  apply wp_region_lit
  refine sbx 3 hs rfl hk rfl rfl rfl rfl fun b2 w a hk hs => ?_
  refine sbx 4 hs rfl hk rfl rfl rfl rfl fun b3 w a hk hs => ?_
  refine sa _ rfl hk rfl rfl rfl fun a hk => ?_
  show wpList _ _ _ [] _ _
  refine wpList_nil ?_
  refine hK1 _ _ ?_
  apply wp_seq_k; intro K4 hK4
  apply wp_seq_k; intro K5 hK5
  apply wp_region_lit
  refine sf ⟨b2, 0, none⟩ rfl hk rfl rfl rfl fd105_0 rfl fun a hk => ?_
  refine sl rfl hk rfl rfl rfl ag3 (box_cell hs (k := 3) rfl rfl) fun a hk => ?_
  refine sf ⟨b3, 0, none⟩ rfl hk rfl rfl rfl fd105_0 rfl fun a hk => ?_
  refine sl rfl hk rfl rfl rfl ag3 (box_cell hs (k := 4) rfl rfl) fun a hk => ?_
  refine sv (.bool (x0.Code != x1.Code)) hk rfl rfl rfl fun a hk => ?_
  show wpList _ _ _ [] _ _
  refine wpList_nil ?_
  refine hK5 _ _ ?_
  rcases cond_some H with ⟨c6, H⟩ | ⟨c6, H⟩
  · have hk := hk.lit 9 c6 rfl
    refine cnd_true hk rfl rfl ?_
    apply wp_seq_k; intro K7 hK7
    apply wp_region_lit
    refine sa _ rfl hk rfl rfl rfl fun a hk => ?_
    show wpList _ _ _ [] _ _
    refine wpList_nil ?_
    refine hK7 _ _ ?_
    refine wp_ret ?_
    obtain rfl := Option.some.inj H
    exact fin hk _ [(.bool false)] rfl ⟨rfl, trivial⟩ ⟨rfl, (hs.pick [] rfl).dnil⟩
  · have hk := hk.lit 9 c6 rfl
    refine cnd_false hk rfl rfl ?_
    refine wp_skip ?_
    refine hK4 _ _ ?_
    apply wp_seq_k; intro K8 hK8
    apply wp_seq_k; intro K9 hK9
    apply wp_region_lit
    refine sf ⟨b2, 1, none⟩ rfl hk rfl rfl rfl fd105_1 rfl fun a hk => ?_
    refine sl rfl hk rfl rfl rfl ag31 (box_cell hs (k := 3) rfl rfl) fun a hk => ?_
    refine sf ⟨b3, 1, none⟩ rfl hk rfl rfl rfl fd105_1 rfl fun a hk => ?_
    refine sl rfl hk rfl rfl rfl ag31 (box_cell hs (k := 4) rfl rfl) fun a hk => ?_
    obtain ⟨y10, h11, H⟩ := bind_some H
    refine sc rfl en22 hk rfl rfl rfl (laws_eqIntS_t _ A0_0 p0_0 x0.Values _ v0_0 (hs.hasD (k := 1) rfl) A1_0 p1_0 x1.Values _ v1_0 (hs.hasD (k := 2) rfl) _ h11) ?_
    rintro _ w ⟨rfl, hG⟩ a hk
    have hs := hs.call0 hG
    refine sv (.bool (!y10)) hk rfl rfl rfl fun a hk => ?_
    show wpList _ _ _ [] _ _
    refine wpList_nil ?_
    refine hK9 _ _ ?_
    rcases cond_some H with ⟨c12, H⟩ | ⟨c12, H⟩
    · have hk := hk.lit 15 c12 rfl
      refine cnd_true hk rfl rfl ?_
      apply wp_seq_k; intro K13 hK13
      apply wp_region_lit
      refine sa _ rfl hk rfl rfl rfl fun a hk => ?_
      show wpList _ _ _ [] _ _
      refine wpList_nil ?_
      refine hK13 _ _ ?_
      refine wp_ret ?_
      obtain rfl := Option.some.inj H
      exact fin hk _ [(.bool false)] rfl ⟨rfl, trivial⟩ ⟨rfl, (hs.pick [] rfl).dnil⟩
    · have hk := hk.lit 15 c12 rfl
      refine cnd_false hk rfl rfl ?_
      refine wp_skip ?_
      refine hK8 _ _ ?_
      apply wp_seq_k; intro K14 hK14
      apply wp_region_lit
      refine sa _ rfl hk rfl rfl rfl fun a hk => ?_
      show wpList _ _ _ [] _ _
      refine wpList_nil ?_
      refine hK14 _ _ ?_
      refine wp_ret ?_
      obtain rfl := Option.some.inj H
      exact fin hk _ [(.bool true)] rfl ⟨rfl, trivial⟩ ⟨rfl, (hs.pick [] rfl).dnil⟩

noncomputable def laws_eqResultS.s0 (l0 : List S_Result) (l1 : List S_Result) (u10 : Int) : Option ((Int) ⊕ Ex (Unit) (Bool)) :=
  (bif (decide (u10 < (l0.length : Int))) then (if 0 ≤ u10 ∧ u10 < (l0.length : Int) then (if 0 ≤ u10 ∧ u10 < (l1.length : Int) then ((laws_eqResult.f (l0.getD u10.toNat z_Result) (l1.getD u10.toNat z_Result)).bind fun y39 => (bif (!y39) then (some (.inr (.ret false))) else (some (.inl (w64 (u10 + 1)))))) else none) else none) else (some (.inr (.out ()))))
noncomputable def laws_eqResultS.f (l0 : List S_Result) (l1 : List S_Result) : Option (Bool) :=
  (bif ((l0.length : Int) != (l1.length : Int)) then (some false) else ((loopO (fun s => laws_eqResultS.s0 l0 l1 s) 0).bind fun o => match o with | .out _ => (some true) | .ret r => (some r)))
set_option maxRecDepth 100000 in
set_option maxHeartbeats 0 in
theorem laws_eqResultS_t (w0 : World) (A0_ : Option Addr) (p0_ : Nat) (l0 : List S_Result) (k0_ : Chunk) (v0_ : View L_impl_Result A0_ p0_ l0 k0_) (w0_ : Has w0 k0_) (A1_ : Option Addr) (p1_ : Nat) (l1 : List S_Result) (k1_ : Chunk) (v1_ : View L_impl_Result A1_ p1_ l1 k1_) (w1_ : Has w0 k1_) (r : Bool) (H : laws_eqResultS.f l0 l1 = some r) :
    Calls Try.prog 30 #[.slice A0_ l0.length p0_, .slice A1_ l1.length p1_] w0 (Ret (fun v w => v = .bool r ∧ Sat [] w0 w [] [])) := by
  have hs : Sat [] w0 w0 [(1, k0_), (2, k1_)] [] := Sat.init w0 [(1, k0_), (2, k1_)] [] (by simp only [List.mem_cons, List.not_mem_nil, or_false]; rintro x (rfl | rfl) <;> assumption) (by simp) List.nodup_nil (by simp [blks])
  unfold laws_eqResultS.f at H
  refine enter Try.func30 rfl Try.ntmps30 rfl fun a hk => ?_
  apply wp_seq_k; intro K1 hK1
  apply wp_region_lit
  refine sa _ rfl hk rfl rfl rfl fun a hk => ?_
  show wpList _ _ _ [] _ _
  refine wpList_nil ?_
  refine hK1 _ _ ?_
  apply wp_seq_k; intro K2 hK2
  apply wp_seq_k; intro K3 hK3
  apply wp_region_lit
  refine sm _ rfl hk rfl rfl rfl fun a hk => ?_
  refine sle rfl hk rfl rfl rfl un55 fun a hk => ?_
  refine sm _ rfl hk rfl rfl rfl fun a hk => ?_
  refine sle rfl hk rfl rfl rfl un55 fun a hk => ?_
  refine sv (.bool ((l0.length : Int) != (l1.length : Int))) hk rfl rfl rfl fun a hk => ?_
  show wpList _ _ _ [] _ _
  refine wpList_nil ?_
  refine hK3 _ _ ?_
  rcases cond_some H with ⟨c4, H⟩ | ⟨c4, H⟩
  · have hk := hk.lit 10 c4 rfl
    refine cnd_true hk rfl rfl ?_
    apply wp_seq_k; intro K5 hK5
    apply wp_region_lit
    refine sa _ rfl hk rfl rfl rfl fun a hk => ?_
    show wpList _ _ _ [] _ _
    refine wpList_nil ?_
    refine hK5 _ _ ?_
    refine wp_ret ?_
    obtain rfl := Option.some.inj H
    exact fin hk _ [(.bool false)] rfl ⟨rfl, trivial⟩ ⟨rfl, (hs.pick [] rfl).dnil⟩
  · have hk := hk.lit 10 c4 rfl
    refine cnd_false hk rfl rfl ?_
    refine wp_skip ?_
    refine hK2 _ _ ?_
    apply wp_seq_k; intro K6 hK6
    apply wp_seq_k; intro K7 hK7
    apply wp_region_lit
    refine sa _ rfl hk rfl rfl rfl fun a hk => ?_
    show wpList _ _ _ [] _ _
    refine wpList_nil ?_
    refine hK7 _ _ ?_
    obtain ⟨o11, h12, HL13⟩ := bind_some H
    clear H
    obtain ⟨R14, hR14⟩ : ∃ R : Act → World → Prop, R = fun a w => o11 = .out () ∧ Kn [] 27 a ∧ Sat [] w0 w [(1, k0_), (2, k1_)] [] := ⟨_, rfl⟩
    refine wp_cutq R14 ?_ ?_
    · refine wp_block ?_
      obtain ⟨fu16, h12⟩ := loopO_some h12
      obtain ⟨I15, hI15⟩ : ∃ I : Nat → Act → World → Prop, I = fun fu a w => ∃ (u10 : Int), loopN (fun s => laws_eqResultS.s0 l0 l1 s) fu u10 = some o11 ∧ Kn [(0, (.slice A0_ l0.length p0_)), (1, (.slice A1_ l1.length p1_)), (5, (.int .i64 u10))] 27 a ∧ Sat [] w0 w [(1, k0_), (2, k1_)] [] := ⟨_, rfl⟩
      refine wp_loop_ghost I15 fu16 ?_ ?_
      · rw [hI15]
        exact ⟨0, h12, (hk.c 0 rfl (hk.c 1 rfl (hk.c 5 rfl hk.k))), (hs.pick [] rfl)⟩
      · clear h12 hk hs
        intro fu16 a w hI0
        rw [hI15] at hI0
        obtain ⟨u10, hi, hk, hs⟩ := hI0
        obtain ⟨x17, H, h18⟩ := loop_round hi
        try dsimp only at H
        unfold laws_eqResultS.s0 at H
        apply wp_seq_k; intro K19 hK19
        apply wp_seq_k; intro K20 hK20
        apply wp_region_lit
        refine sm _ rfl hk rfl rfl rfl fun a hk => ?_
        refine sm _ rfl hk rfl rfl rfl fun a hk => ?_
        refine sle rfl hk rfl rfl rfl un55 fun a hk => ?_
        refine sv (.bool (decide (u10 < (l0.length : Int)))) hk rfl rfl rfl fun a hk => ?_
        show wpList _ _ _ [] _ _
        refine wpList_nil ?_
        refine hK20 _ _ ?_
        rcases cond_some H with ⟨c21, H⟩ | ⟨c21, H⟩
        · have hk := hk.lit 14 c21 rfl
          refine cnd_true hk rfl rfl ?_
          refine wp_skip ?_
          refine hK19 _ _ ?_
          apply wp_seq_k; intro K22 hK22
          refine wp_block ?_
          apply wp_seq_k; intro K23 hK23
          refine wp_region_tree (.q 0 (.q 1 (.q 2 (.q 3 (.q 4 (.alt 5 (.alt 6 (.alt 7 (.alt 8 (.alt 9 .done .stop) .stop) .stop) .stop) .stop)))))) mo (by kernel_rfl) (hs.pick [] rfl) fun _ => ?_
          have hs := hs.drew
          refine tqst (.slice A0_ l0.length p0_) hk rfl rfl rfl rfl (fun w hs => sm _ rfl hk rfl rfl rfl fun a hk => qe hk) fun a hk => ?_
          refine tqst (.int .i64 u10) hk rfl rfl rfl rfl (fun w hs => sm _ rfl hk rfl rfl rfl fun a hk => qe hk) fun a hk => ?_
          rcases ite_some H with ⟨c25, H⟩ | ⟨_, H⟩
          rotate_left
          · cases H
          obtain ⟨b26, q27, hAc25⟩ := (v0_).some_ u10 c25.1 c25.2
          refine tqst (.pointer (some (padd A0_ (u10.toNat * 2)))) hk rfl rfl rfl rfl (fun w hs => si rfl hk rfl rfl rfl rfl un55 sz105 c25.1 c25.2 hAc25 fun a hk => qe hk) fun a hk => ?_
          obtain ⟨_, ⟨_, _, rfl, rfl, ⟨_, rfl, A29, p30, rfl, v31⟩⟩, e28⟩ := (v0_).at_ z_Result u10 c25.1 c25.2
          refine tqst (.agg #[.int .i64 ((l0.getD u10.toNat z_Result).Code), .slice A29 ((l0.getD u10.toNat z_Result).Values).length p30]) hk rfl rfl rfl rfl (fun w hs => sln [.int .i64 ((l0.getD u10.toNat z_Result).Code), .slice A29 ((l0.getD u10.toNat z_Result).Values).length p30] rfl hk rfl rfl rfl ag105 sz105 (cells_at e28 (hs.hasD (k := 1) rfl)) fun a hk => qe hk) fun a hk => ?_
          refine tqst (.slice A1_ l1.length p1_) hk rfl rfl rfl rfl (fun w hs => sm _ rfl hk rfl rfl rfl fun a hk => qe hk) fun a hk => ?_
          refine tsst hk rfl rfl (fun K_r24_5 hK_r24_5 w hF => ?_) wt_stop
          have hs := hs.f hF
          refine sm _ rfl hk rfl rfl rfl fun a hk => ?_
          refine se (hs.pick [] rfl) hk (hK_r24_5 _ _ ?_)
          refine tsst hk rfl rfl (fun K_r24_6 hK_r24_6 w hF => ?_) wt_stop
          have hs := hs.f hF
          rcases ite_some H with ⟨c32, H⟩ | ⟨_, H⟩
          rotate_left
          · cases H
          obtain ⟨b33, q34, hAc32⟩ := (v1_).some_ u10 c32.1 c32.2
          refine si rfl hk rfl rfl rfl rfl un55 sz105 c32.1 c32.2 hAc32 fun a hk => ?_
          refine se (hs.pick [] rfl) hk (hK_r24_6 _ _ ?_)
          refine tsst hk rfl rfl (fun K_r24_7 hK_r24_7 w hF => ?_) wt_stop
          have hs := hs.f hF
          obtain ⟨_, ⟨_, _, rfl, rfl, ⟨_, rfl, A36, p37, rfl, v38⟩⟩, e35⟩ := (v1_).at_ z_Result u10 c32.1 c32.2
          refine sln [.int .i64 ((l1.getD u10.toNat z_Result).Code), .slice A36 ((l1.getD u10.toNat z_Result).Values).length p37] rfl hk rfl rfl rfl ag105 sz105 (cells_at e35 (hs.hasD (k := 2) rfl)) fun a hk => ?_
          refine se (hs.pick [] rfl) hk (hK_r24_7 _ _ ?_)
          refine tsst hk rfl rfl (fun K_r24_8 hK_r24_8 w hF => ?_) wt_stop
          have hs := hs.f hF
          obtain ⟨y39, h40, H⟩ := bind_some H
          refine sc rfl en79 hk rfl rfl rfl (laws_eqResult_t _ (l0.getD u10.toNat z_Result) A29 p30 _ v31 (hs.hasD (k := 1) rfl) (l1.getD u10.toNat z_Result) A36 p37 _ v38 (hs.hasD (k := 2) rfl) _ h40) ?_
          rintro _ w ⟨rfl, hG⟩ a hk
          have hs := hs.call0 hG
          refine se (hs.pick [] rfl) hk (hK_r24_8 _ _ ?_)
          refine tsst hk rfl rfl (fun K_r24_9 hK_r24_9 w hF => ?_) wt_stop
          have hs := hs.f hF
          refine sv (.bool (!y39)) hk rfl rfl rfl fun a hk => ?_
          refine se (hs.pick [] rfl) hk (hK_r24_9 _ _ ?_)
          refine wtl_nil fun w hF _ => ?_
          have hs := hs.f hF
          refine hK23 _ _ ?_
          rcases cond_some H with ⟨c41, H⟩ | ⟨c41, H⟩
          · have hk := hk.lit 26 c41 rfl
            refine cnd_true hk rfl rfl ?_
            apply wp_seq_k; intro K42 hK42
            apply wp_region_lit
            refine sa _ rfl hk rfl rfl rfl fun a hk => ?_
            show wpList _ _ _ [] _ _
            refine wpList_nil ?_
            refine hK42 _ _ ?_
            refine wp_ret ?_
            obtain rfl := Option.some.inj H
            have ho11 := h18
            try dsimp only at ho11
            subst ho11
            have H := HL13
            try dsimp only at H
            obtain rfl := Option.some.inj H
            exact fin hk _ [(.bool false)] rfl ⟨rfl, trivial⟩ ⟨rfl, (hs.pick [] rfl).dnil⟩
          · have hk := hk.lit 26 c41 rfl
            refine cnd_false hk rfl rfl ?_
            refine wp_skip ?_
            refine hK22 _ _ ?_
            apply wp_region_lit
            refine sm _ rfl hk rfl rfl rfl fun a hk => ?_
            refine sv (.int .i64 (w64 (u10 + 1))) hk rfl rfl rfl fun a hk => ?_
            refine sa _ rfl hk rfl rfl rfl fun a hk => ?_
            show wpList _ _ _ [] _ _
            refine wpList_nil ?_
            obtain rfl := Option.some.inj H
            obtain ⟨m43, hmm43, h18⟩ := h18
            show ∃ n', n' < _ ∧ I15 n' _ _
            refine ⟨m43, hmm43, ?_⟩
            rw [hI15]
            exact ⟨(w64 (u10 + 1)), h18, (hk.c 0 rfl (hk.c 1 rfl (hk.c 5 rfl hk.k))), (hs.pick [] rfl)⟩
        · have hk := hk.lit 14 c21 rfl
          refine cnd_false hk rfl rfl ?_
          refine wp_exit ?_
          obtain rfl := Option.some.inj H
          show R14 _ _
          rw [hR14]
          exact ⟨h18.symm, hk.k, (hs.pick [] rfl)⟩
    · intro a w hR0
      rw [hR14] at hR0
      obtain ⟨rfl, hk, hs⟩ := hR0
      have H := HL13
      try dsimp only at H
      refine hK6 _ _ ?_
      apply wp_seq_k; intro K44 hK44
      apply wp_region_lit
      refine sa _ rfl hk rfl rfl rfl fun a hk => ?_
      show wpList _ _ _ [] _ _
      refine wpList_nil ?_
      refine hK44 _ _ ?_
      refine wp_ret ?_
      obtain rfl := Option.some.inj H
      exact fin hk _ [(.bool true)] rfl ⟨rfl, trivial⟩ ⟨rfl, (hs.pick [] rfl).dnil⟩

noncomputable def laws_FnExactStateText.f (x0 : S_Enc) (l1 : List S_Result) : Option (Bool) :=
  ((laws_szEnc.f x0 1048576).bind fun y5 => (bif (decide (y5 < 0)) then (some true) else ((laws_szResultS.f l1 y5).bind fun y12 => (bif (decide (y12 < 0)) then (some true) else ((laws_toEnc.f x0).bind fun y19 => ((laws_toResultS.f l1).bind fun y37 => ((spec_StateText.f y19 y37).bind fun y43 => ((laws_toEnc.f x0).bind fun y46 => ((laws_toResultS.f l1).bind fun y66 => ((impl_StateText.f y46 y66).bind fun y73 => (((bif (!(y73.1.toList == y43.1.toList)) then (some true) else (some (y73.2 != y43.2))) : Option (Bool)).bind fun u78 => (bif u78 then (some false) else ((laws_toEnc.f x0).bind fun y89 => ((laws_eqEnc.f y46 y89).bind fun y107 => (bif (!y107) then (some false) else ((laws_toResultS.f l1).bind fun y113 => ((laws_eqResultS.f y66 y113).bind fun y119 => (bif (!y119) then (some false) else (some true)))))))))))))))))))
set_option maxRecDepth 100000 in
set_option maxHeartbeats 0 in
theorem laws_FnExactStateText_t (w0 : World) (x0 : S_Enc) (A0_0 : Option Addr) (p0_0 : Nat) (k0_0 : Chunk) (v0_0 : View (Lay.int .i64) A0_0 p0_0 x0.Keys k0_0) (w0_0 : Has w0 k0_0) (A0_1 : Option Addr) (p0_1 : Nat) (k0_1 : Chunk) (v0_1 : View (Lay.int .i64) A0_1 p0_1 x0.Oram.Pos k0_1) (w0_1 : Has w0 k0_1) (A0_2 : Option Addr) (p0_2 : Nat) (k0_2 : Chunk) (v0_2 : View L_Block A0_2 p0_2 x0.Oram.Stash k0_2) (w0_2 : Has w0 k0_2) (A0_3 : Option Addr) (p0_3 : Nat) (k0_3 : Chunk) (v0_3 : View (Lay.sl L_Block 83) A0_3 p0_3 x0.Oram.Buckets k0_3) (w0_3 : Has w0 k0_3) (A1_ : Option Addr) (p1_ : Nat) (l1 : List S_Result) (k1_ : Chunk) (v1_ : View L_laws_Result A1_ p1_ l1 k1_) (w1_ : Has w0 k1_) (r : Bool) (H : laws_FnExactStateText.f x0 l1 = some r) :
    Calls Try.prog 5 #[.agg #[.slice A0_0 x0.Keys.length p0_0, .slice A0_1 x0.Oram.Pos.length p0_1, .slice A0_2 x0.Oram.Stash.length p0_2, .slice A0_3 x0.Oram.Buckets.length p0_3], .slice A1_ l1.length p1_] w0 (Ret (fun v w => v = .bool r ∧ Sat [] w0 w [] [])) := by
  have hs : Sat [] w0 w0 [(1, k0_0), (2, k0_1), (3, k0_2), (4, k0_3), (5, k1_)] [] := Sat.init w0 [(1, k0_0), (2, k0_1), (3, k0_2), (4, k0_3), (5, k1_)] [] (by simp only [List.mem_cons, List.not_mem_nil, or_false]; rintro x (rfl | rfl | rfl | rfl | rfl) <;> assumption) (by simp) List.nodup_nil (by simp [blks])
  unfold laws_FnExactStateText.f at H
  refine enter Try.func5 rfl Try.ntmps5 rfl fun a hk => ?_
  apply wp_seq_k; intro K1 hK1
  apply wp_region_lit
  refine sbx 6 hs rfl hk rfl rfl rfl rfl fun b2 w a hk hs => ?_
  refine sa _ rfl hk rfl rfl rfl fun a hk => ?_
  show wpList _ _ _ [] _ _
  refine wpList_nil ?_
  refine hK1 _ _ ?_
  apply wp_seq_k; intro K3 hK3
  apply wp_region_lit
  refine sa _ rfl hk rfl rfl rfl fun a hk => ?_
  show wpList _ _ _ [] _ _
  refine wpList_nil ?_
  refine hK3 _ _ ?_
  apply wp_seq_k; intro K4 hK4
  apply wp_region_lit
  refine sln [.slice A0_0 x0.Keys.length p0_0, .slice A0_1 x0.Oram.Pos.length p0_1, .slice A0_2 x0.Oram.Stash.length p0_2, .slice A0_3 x0.Oram.Buckets.length p0_3] rfl hk rfl rfl rfl ag44 sz44 (box_cells hs (k := 6) rfl) fun a hk => ?_
  refine sm _ rfl hk rfl rfl rfl fun a hk => ?_
  obtain ⟨y5, h6, H⟩ := bind_some H
  refine sc rfl en23 hk rfl rfl rfl (laws_szEnc_t _ x0 A0_0 p0_0 _ v0_0 (hs.hasD (k := 1) rfl) A0_1 p0_1 _ v0_1 (hs.hasD (k := 2) rfl) A0_2 p0_2 _ v0_2 (hs.hasD (k := 3) rfl) A0_3 p0_3 _ v0_3 (hs.hasD (k := 4) rfl) 1048576 _ h6) ?_
  rintro _ w ⟨rfl, hG⟩ a hk
  have hs := hs.call0 hG
  refine sa _ rfl hk rfl rfl rfl fun a hk => ?_
  show wpList _ _ _ [] _ _
  refine wpList_nil ?_
  refine hK4 _ _ ?_
  apply wp_seq_k; intro K7 hK7
  apply wp_seq_k; intro K8 hK8
  apply wp_region_lit
  refine sm _ rfl hk rfl rfl rfl fun a hk => ?_
  refine sv (.bool (decide (y5 < 0))) hk rfl rfl rfl fun a hk => ?_
  show wpList _ _ _ [] _ _
  refine wpList_nil ?_
  refine hK8 _ _ ?_
  rcases cond_some H with ⟨c9, H⟩ | ⟨c9, H⟩
  · have hk := hk.lit 16 c9 rfl
    refine cnd_true hk rfl rfl ?_
    apply wp_seq_k; intro K10 hK10
    apply wp_region_lit
    refine sa _ rfl hk rfl rfl rfl fun a hk => ?_
    show wpList _ _ _ [] _ _
    refine wpList_nil ?_
    refine hK10 _ _ ?_
    refine wp_ret ?_
    obtain rfl := Option.some.inj H
    exact fin hk _ [(.bool true)] rfl ⟨rfl, trivial⟩ ⟨rfl, (hs.pick [] rfl).dnil⟩
  · have hk := hk.lit 16 c9 rfl
    refine cnd_false hk rfl rfl ?_
    refine wp_skip ?_
    refine hK7 _ _ ?_
    apply wp_seq_k; intro K11 hK11
    apply wp_region_lit
    refine sm _ rfl hk rfl rfl rfl fun a hk => ?_
    refine sm _ rfl hk rfl rfl rfl fun a hk => ?_
    obtain ⟨y12, h13, H⟩ := bind_some H
    refine sc rfl en24 hk rfl rfl rfl (laws_szResultS_t _ A1_ p1_ l1 _ v1_ (hs.hasD (k := 5) rfl) y5 _ h13) ?_
    rintro _ w ⟨rfl, hG⟩ a hk
    have hs := hs.call0 hG
    refine sa _ rfl hk rfl rfl rfl fun a hk => ?_
    show wpList _ _ _ [] _ _
    refine wpList_nil ?_
    refine hK11 _ _ ?_
    apply wp_seq_k; intro K14 hK14
    apply wp_seq_k; intro K15 hK15
    apply wp_region_lit
    refine sm _ rfl hk rfl rfl rfl fun a hk => ?_
    refine sv (.bool (decide (y12 < 0))) hk rfl rfl rfl fun a hk => ?_
    show wpList _ _ _ [] _ _
    refine wpList_nil ?_
    refine hK15 _ _ ?_
    rcases cond_some H with ⟨c16, H⟩ | ⟨c16, H⟩
    · have hk := hk.lit 21 c16 rfl
      refine cnd_true hk rfl rfl ?_
      apply wp_seq_k; intro K17 hK17
      apply wp_region_lit
      refine sa _ rfl hk rfl rfl rfl fun a hk => ?_
      show wpList _ _ _ [] _ _
      refine wpList_nil ?_
      refine hK17 _ _ ?_
      refine wp_ret ?_
      obtain rfl := Option.some.inj H
      exact fin hk _ [(.bool true)] rfl ⟨rfl, trivial⟩ ⟨rfl, (hs.pick [] rfl).dnil⟩
    · have hk := hk.lit 21 c16 rfl
      refine cnd_false hk rfl rfl ?_
      refine wp_skip ?_
      refine hK14 _ _ ?_
      apply wp_seq_k; intro K18 hK18
      apply wp_region_lit
      refine sln [.slice A0_0 x0.Keys.length p0_0, .slice A0_1 x0.Oram.Pos.length p0_1, .slice A0_2 x0.Oram.Stash.length p0_2, .slice A0_3 x0.Oram.Buckets.length p0_3] rfl hk rfl rfl rfl ag44 sz44 (box_cells hs (k := 6) rfl) fun a hk => ?_
      obtain ⟨y19, h20, H⟩ := bind_some H
      refine sc rfl en26 hk rfl rfl rfl (laws_toEnc_t _ x0 A0_0 p0_0 _ v0_0 (hs.hasD (k := 1) rfl) A0_1 p0_1 _ v0_1 (hs.hasD (k := 2) rfl) A0_2 p0_2 _ v0_2 (hs.hasD (k := 3) rfl) A0_3 p0_3 _ v0_3 (hs.hasD (k := 4) rfl) _ h20) ?_
      rintro _ w ⟨A21, p22, k23, A25, p26, k27, A29, p30, k31, A33, p34, k35, rfl, o24, o28, o32, o36, hG⟩ a hk
      have hs := hs.call0k hG [7, 8, 9, 10] rfl
      refine sm _ rfl hk rfl rfl rfl fun a hk => ?_
      obtain ⟨y37, h38, H⟩ := bind_some H
      refine sc rfl en27 hk rfl rfl rfl (laws_toResultS_t _ A1_ p1_ l1 _ v1_ (hs.hasD (k := 5) rfl) _ h38) ?_
      rintro _ w ⟨A39, p40, k41, rfl, o42, hG⟩ a hk
      have hs := hs.call0k hG [11] rfl
      obtain ⟨y43, h44, H⟩ := bind_some H
      refine sc rfl en25 hk rfl rfl rfl (spec_StateText_t _ y19 A21 p22 _ o24.view (hs.hasG (k := 7) rfl) A25 p26 _ o28.view (hs.hasG (k := 8) rfl) A29 p30 _ o32.view (hs.hasG (k := 9) rfl) A33 p34 _ o36.view (hs.hasG (k := 10) rfl) A39 p40 y37 _ o42.view (hs.hasG (k := 11) rfl) _ h44) ?_
      rintro _ w ⟨rfl, hG⟩ a hk
      have hs := hs.call0 hG
      refine sm _ rfl hk rfl rfl rfl fun a hk => ?_
      refine sv (.string y43.1) hk rfl rfl rfl fun a hk => ?_
      refine sv (.int .i64 y43.2) hk rfl rfl rfl fun a hk => ?_
      refine sa _ rfl hk rfl rfl rfl fun a hk => ?_
      refine sa _ rfl hk rfl rfl rfl fun a hk => ?_
      show wpList _ _ _ [] _ _
      refine wpList_nil ?_
      refine hK18 _ _ ?_
      apply wp_seq_k; intro K45 hK45
      apply wp_region_lit
      refine sln [.slice A0_0 x0.Keys.length p0_0, .slice A0_1 x0.Oram.Pos.length p0_1, .slice A0_2 x0.Oram.Stash.length p0_2, .slice A0_3 x0.Oram.Buckets.length p0_3] rfl hk rfl rfl rfl ag44 sz44 (box_cells hs (k := 6) rfl) fun a hk => ?_
      obtain ⟨y46, h47, H⟩ := bind_some H
      refine sc rfl en26 hk rfl rfl rfl (laws_toEnc_t _ x0 A0_0 p0_0 _ v0_0 (hs.hasD (k := 1) rfl) A0_1 p0_1 _ v0_1 (hs.hasD (k := 2) rfl) A0_2 p0_2 _ v0_2 (hs.hasD (k := 3) rfl) A0_3 p0_3 _ v0_3 (hs.hasD (k := 4) rfl) _ h47) ?_
      rintro _ w ⟨A48, p49, k50, A52, p53, k54, A56, p57, k58, A60, p61, k62, rfl, o51, o55, o59, o63, hG⟩ a hk
      have hs := hs.call0k hG [12, 13, 14, 15] rfl
      refine salx 16 hs rfl hk rfl rfl ze53 rfl fun b64 w a hk hs => ?_
      refine ssw 16 hs rfl rfl hk rfl rfl rfl rfl sz53 (by simp [Value.oneCell']) rfl fun w a hk hs => ?_
      show wpList _ _ _ [] _ _
      refine wpList_nil ?_
      refine hK45 _ _ ?_
      apply wp_seq_k; intro K65 hK65
      apply wp_region_lit
      refine sm _ rfl hk rfl rfl rfl fun a hk => ?_
      obtain ⟨y66, h67, H⟩ := bind_some H
      refine sc rfl en27 hk rfl rfl rfl (laws_toResultS_t _ A1_ p1_ l1 _ v1_ (hs.hasD (k := 5) rfl) _ h67) ?_
      rintro _ w ⟨A68, p69, k70, rfl, o71, hG⟩ a hk
      have hs := hs.call0k hG [17] rfl
      refine sa _ rfl hk rfl rfl rfl fun a hk => ?_
      show wpList _ _ _ [] _ _
      refine wpList_nil ?_
      refine hK65 _ _ ?_
      apply wp_seq_k; intro K72 hK72
      apply wp_region_lit
      refine sln [.slice A48 y46.Keys.length p49, .slice A52 y46.Oram.Pos.length p53, .slice A56 y46.Oram.Stash.length p57, .slice A60 y46.Oram.Buckets.length p61] rfl hk rfl rfl rfl ag53 sz53 (box_cells hs (k := 16) rfl) fun a hk => ?_
      refine sm _ rfl hk rfl rfl rfl fun a hk => ?_
      obtain ⟨y73, h74, H⟩ := bind_some H
      refine sc rfl en28 hk rfl rfl rfl (impl_StateText_t _ y46 A48 p49 _ o51.view (hs.hasG (k := 12) rfl) A52 p53 _ o55.view (hs.hasG (k := 13) rfl) A56 p57 _ o59.view (hs.hasG (k := 14) rfl) A60 p61 _ o63.view (hs.hasG (k := 15) rfl) A68 p69 y66 _ o71.view (hs.hasG (k := 17) rfl) _ h74) ?_
      rintro _ w ⟨rfl, hG⟩ a hk
      have hs := hs.call0 hG
      refine sm _ rfl hk rfl rfl rfl fun a hk => ?_
      refine sv (.string y73.1) hk rfl rfl rfl fun a hk => ?_
      refine sv (.int .i64 y73.2) hk rfl rfl rfl fun a hk => ?_
      refine sa _ rfl hk rfl rfl rfl fun a hk => ?_
      refine sa _ rfl hk rfl rfl rfl fun a hk => ?_
      show wpList _ _ _ [] _ _
      refine wpList_nil ?_
      refine hK72 _ _ ?_
      apply wp_seq_k; intro K75 hK75
      apply wp_seq_k; intro K76 hK76
      obtain ⟨o79, h80, HL81⟩ := bind_some H
      clear H
      obtain ⟨R82, hR82⟩ : ∃ R : Act → World → Prop, R = fun a w => ∃ (u78 : Bool), u78 = o79 ∧ Kn [(1, (.slice A1_ l1.length p1_)), (2, (.pointer (some ⟨b2, 0, none⟩))), (8, (.pointer (some ⟨b64, 0, none⟩))), (9, (.slice A68 y66.length p69)), (47, (.bool u78))] 58 a ∧ Sat [] w0 w [(1, k0_0), (2, k0_1), (3, k0_2), (4, k0_3), (5, k1_)] [(17, k70), (6, [(b2, .cells #[.slice A0_0 x0.Keys.length p0_0, .slice A0_1 x0.Oram.Pos.length p0_1, .slice A0_2 x0.Oram.Stash.length p0_2, .slice A0_3 x0.Oram.Buckets.length p0_3] 44 (0, 0))]), (16, [(b64, .cells #[.slice A48 y46.Keys.length p49, .slice A52 y46.Oram.Pos.length p53, .slice A56 y46.Oram.Stash.length p57, .slice A60 y46.Oram.Buckets.length p61] 53 (0, 0))]), (12, k50), (13, k54), (14, k58), (15, k62)] := ⟨_, rfl⟩
      refine wp_cutq R82 ?_ ?_
      · have H := h80
        apply wp_region_lit
        refine sm _ rfl hk rfl rfl rfl fun a hk => ?_
        refine sm _ rfl hk rfl rfl rfl fun a hk => ?_
        refine sv (.bool (!(y73.1.toList == y43.1.toList))) hk rfl rfl rfl fun a hk => ?_
        refine sm _ rfl hk rfl rfl rfl fun a hk => ?_
        rcases cond_some H with ⟨c83, H⟩ | ⟨c83, H⟩
        · have hk := hk.lit 43 c83 rfl
          refine sk hk rfl rfl rfl fun a hk => ?_
          refine sk hk rfl rfl rfl fun a hk => ?_
          refine sk hk rfl rfl rfl fun a hk => ?_
          refine sv (.bool true) hk rfl rfl rfl fun a hk => ?_
          show wpList _ _ _ [] _ _
          refine wpList_nil ?_
          obtain rfl := Option.some.inj H
          show R82 _ _
          rw [hR82]
          exact ⟨true, rfl, (hk.c 1 rfl (hk.c 2 rfl (hk.c 8 rfl (hk.c 9 rfl (hk.c 47 rfl hk.k))))), (hs.pick [(17, 17), (6, 6), (16, 16), (12, 12), (13, 13), (14, 14), (15, 15)] rfl)⟩
        · have hk := hk.lit 43 c83 rfl
          refine sm _ rfl hk rfl rfl rfl fun a hk => ?_
          refine sm _ rfl hk rfl rfl rfl fun a hk => ?_
          refine sv (.bool (y73.2 != y43.2)) hk rfl rfl rfl fun a hk => ?_
          refine sv (.bool (y73.2 != y43.2)) hk rfl rfl rfl fun a hk => ?_
          show wpList _ _ _ [] _ _
          refine wpList_nil ?_
          obtain rfl := Option.some.inj H
          show R82 _ _
          rw [hR82]
          exact ⟨(y73.2 != y43.2), rfl, (hk.c 1 rfl (hk.c 2 rfl (hk.c 8 rfl (hk.c 9 rfl (hk.c 47 rfl hk.k))))), (hs.pick [(17, 17), (6, 6), (16, 16), (12, 12), (13, 13), (14, 14), (15, 15)] rfl)⟩
      · intro a w hR0
        rw [hR82] at hR0
        obtain ⟨u78, rfl, hk, hs⟩ := hR0
        have H := HL81
        try dsimp only at H
        refine hK76 _ _ ?_
        rcases cond_some H with ⟨c84, H⟩ | ⟨c84, H⟩
        · have hk := hk.lit 47 c84 rfl
          refine cnd_true hk rfl rfl ?_
          apply wp_seq_k; intro K85 hK85
          apply wp_region_lit
          refine sa _ rfl hk rfl rfl rfl fun a hk => ?_
          show wpList _ _ _ [] _ _
          refine wpList_nil ?_
          refine hK85 _ _ ?_
          refine wp_ret ?_
          obtain rfl := Option.some.inj H
          exact fin hk _ [(.bool false)] rfl ⟨rfl, trivial⟩ ⟨rfl, (hs.pick [] rfl).dnil⟩
        · have hk := hk.lit 47 c84 rfl
          refine cnd_false hk rfl rfl ?_
          refine wp_skip ?_
          refine hK75 _ _ ?_
          apply wp_seq_k; intro K86 hK86
          apply wp_seq_k; intro K87 hK87
          refine wp_region_tree (.q 0 (.alt 1 (.alt 2 (.alt 3 (.alt 4 .done .stop) .stop) .stop) .stop)) mo (by kernel_rfl) (hs.pick [(17, 17), (6, 6), (16, 16), (12, 12), (13, 13), (14, 14), (15, 15)] rfl) fun _ => ?_
          have hs := hs.drew
          refine tqst (.agg #[.slice A48 y46.Keys.length p49, .slice A52 y46.Oram.Pos.length p53, .slice A56 y46.Oram.Stash.length p57, .slice A60 y46.Oram.Buckets.length p61]) hk rfl rfl rfl rfl (fun w hs => sln [.slice A48 y46.Keys.length p49, .slice A52 y46.Oram.Pos.length p53, .slice A56 y46.Oram.Stash.length p57, .slice A60 y46.Oram.Buckets.length p61] rfl hk rfl rfl rfl ag53 sz53 (box_cells hs (k := 16) rfl) fun a hk => qe hk) fun a hk => ?_
          refine tsst hk rfl rfl (fun K_r88_1 hK_r88_1 w hF => ?_) wt_stop
          have hs := hs.f hF
          refine sln [.slice A0_0 x0.Keys.length p0_0, .slice A0_1 x0.Oram.Pos.length p0_1, .slice A0_2 x0.Oram.Stash.length p0_2, .slice A0_3 x0.Oram.Buckets.length p0_3] rfl hk rfl rfl rfl ag44 sz44 (box_cells hs (k := 6) rfl) fun a hk => ?_
          refine se (hs.pick [(17, 17), (6, 6), (16, 16), (12, 12), (13, 13), (14, 14), (15, 15)] rfl) hk (hK_r88_1 _ _ ?_)
          refine tsst hk rfl rfl (fun K_r88_2 hK_r88_2 w hF => ?_) wt_stop
          have hs := hs.f hF
          obtain ⟨y89, h90, H⟩ := bind_some H
          refine sc rfl en26 hk rfl rfl rfl (laws_toEnc_t _ x0 A0_0 p0_0 _ v0_0 (hs.hasD (k := 1) rfl) A0_1 p0_1 _ v0_1 (hs.hasD (k := 2) rfl) A0_2 p0_2 _ v0_2 (hs.hasD (k := 3) rfl) A0_3 p0_3 _ v0_3 (hs.hasD (k := 4) rfl) _ h90) ?_
          rintro _ w ⟨A91, p92, k93, A95, p96, k97, A99, p100, k101, A103, p104, k105, rfl, o94, o98, o102, o106, hG⟩ a hk
          have hs := hs.call0k hG [20, 21, 22, 23] rfl
          refine se (hs.pick [(17, 17), (6, 6), (16, 16), (12, 12), (13, 13), (14, 14), (15, 15)] rfl) hk (hK_r88_2 _ _ ?_)
          refine tsst hk rfl rfl (fun K_r88_3 hK_r88_3 w hF => ?_) wt_stop
          have hs := hs.f hF
          obtain ⟨y107, h108, H⟩ := bind_some H
          refine sc rfl en29 hk rfl rfl rfl (laws_eqEnc_t _ y46 A48 p49 _ o51.view (hs.hasG (k := 12) rfl) A52 p53 _ o55.view (hs.hasG (k := 13) rfl) A56 p57 _ o59.view (hs.hasG (k := 14) rfl) A60 p61 _ o63.view (hs.hasG (k := 15) rfl) y89 A91 p92 _ o94.view (hs.hasG (k := 20) rfl) A95 p96 _ o98.view (hs.hasG (k := 21) rfl) A99 p100 _ o102.view (hs.hasG (k := 22) rfl) A103 p104 _ o106.view (hs.hasG (k := 23) rfl) _ h108) ?_
          rintro _ w ⟨rfl, hG⟩ a hk
          have hs := hs.call0 hG
          refine se (hs.pick [(17, 17), (6, 6), (16, 16), (12, 12), (13, 13), (14, 14), (15, 15)] rfl) hk (hK_r88_3 _ _ ?_)
          refine tsst hk rfl rfl (fun K_r88_4 hK_r88_4 w hF => ?_) wt_stop
          have hs := hs.f hF
          refine sv (.bool (!y107)) hk rfl rfl rfl fun a hk => ?_
          refine se (hs.pick [(17, 17), (6, 6), (16, 16), (12, 12), (13, 13), (14, 14), (15, 15)] rfl) hk (hK_r88_4 _ _ ?_)
          refine wtl_nil fun w hF _ => ?_
          have hs := hs.f hF
          refine hK87 _ _ ?_
          rcases cond_some H with ⟨c109, H⟩ | ⟨c109, H⟩
          · have hk := hk.lit 52 c109 rfl
            refine cnd_true hk rfl rfl ?_
            apply wp_seq_k; intro K110 hK110
            apply wp_region_lit
            refine sa _ rfl hk rfl rfl rfl fun a hk => ?_
            show wpList _ _ _ [] _ _
            refine wpList_nil ?_
            refine hK110 _ _ ?_
            refine wp_ret ?_
            obtain rfl := Option.some.inj H
            exact fin hk _ [(.bool false)] rfl ⟨rfl, trivial⟩ ⟨rfl, (hs.pick [] rfl).dnil⟩
          · have hk := hk.lit 52 c109 rfl
            refine cnd_false hk rfl rfl ?_
            refine wp_skip ?_
            refine hK86 _ _ ?_
            apply wp_seq_k; intro K111 hK111
            apply wp_seq_k; intro K112 hK112
            apply wp_region_lit
            refine sm _ rfl hk rfl rfl rfl fun a hk => ?_
            refine sm _ rfl hk rfl rfl rfl fun a hk => ?_
            obtain ⟨y113, h114, H⟩ := bind_some H
            refine sc rfl en27 hk rfl rfl rfl (laws_toResultS_t _ A1_ p1_ l1 _ v1_ (hs.hasD (k := 5) rfl) _ h114) ?_
            rintro _ w ⟨A115, p116, k117, rfl, o118, hG⟩ a hk
            have hs := hs.call0k hG [24] rfl
            obtain ⟨y119, h120, H⟩ := bind_some H
            refine sc rfl en30 hk rfl rfl rfl (laws_eqResultS_t _ A68 p69 y66 _ o71.view (hs.hasG (k := 17) rfl) A115 p116 y113 _ o118.view (hs.hasG (k := 24) rfl) _ h120) ?_
            rintro _ w ⟨rfl, hG⟩ a hk
            have hs := hs.call0 hG
            refine sv (.bool (!y119)) hk rfl rfl rfl fun a hk => ?_
            show wpList _ _ _ [] _ _
            refine wpList_nil ?_
            refine hK112 _ _ ?_
            rcases cond_some H with ⟨c121, H⟩ | ⟨c121, H⟩
            · have hk := hk.lit 57 c121 rfl
              refine cnd_true hk rfl rfl ?_
              apply wp_seq_k; intro K122 hK122
              apply wp_region_lit
              refine sa _ rfl hk rfl rfl rfl fun a hk => ?_
              show wpList _ _ _ [] _ _
              refine wpList_nil ?_
              refine hK122 _ _ ?_
              refine wp_ret ?_
              obtain rfl := Option.some.inj H
              exact fin hk _ [(.bool false)] rfl ⟨rfl, trivial⟩ ⟨rfl, (hs.pick [] rfl).dnil⟩
            · have hk := hk.lit 57 c121 rfl
              refine cnd_false hk rfl rfl ?_
              refine wp_skip ?_
              refine hK111 _ _ ?_
              apply wp_seq_k; intro K123 hK123
              apply wp_region_lit
              refine sa _ rfl hk rfl rfl rfl fun a hk => ?_
              show wpList _ _ _ [] _ _
              refine wpList_nil ?_
              refine hK123 _ _ ?_
              refine wp_ret ?_
              obtain rfl := Option.some.inj H
              exact fin hk _ [(.bool true)] rfl ⟨rfl, trivial⟩ ⟨rfl, (hs.pick [] rfl).dnil⟩

end Go.Proofs.Ytmgfkpfacdlfbaa
