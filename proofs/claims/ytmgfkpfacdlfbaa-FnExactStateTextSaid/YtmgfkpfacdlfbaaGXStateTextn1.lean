/- Further functions. -/
import Derived.Test.YtmgfkpfacdlfbaaGXStateText
namespace Go.Proofs.Ytmgfkpfacdlfbaa
open Go Go.Z Go.Proofs Go.MuLone Go.ChangeShapes Go.WideShapes Go.ChangeAt Go.RowKit
set_option linter.unusedVariables false
set_option linter.unusedSimpArgs false
noncomputable def laws_toBlockSS.s0 (l0 : List (List S_Block)) (u12 : List (List S_Block)) (u16 : Int) : Option (((List (List S_Block)) × Int) ⊕ Ex ((List (List S_Block))) ((List (List S_Block)))) :=
  (bif (decide (u16 < (l0.length : Int))) then (if 0 ≤ u16 ∧ u16 < (l0.length : Int) then ((laws_toBlockS.f (l0.getD u16.toNat [])).bind fun y40 => (if 0 ≤ u16 ∧ u16 < ((((l0.length : Int)).toNat) : Int) then (some (.inl ((u12.set u16.toNat y40), (w64 (u16 + 1))))) else none)) else none) else (some (.inr (.out u12))))
noncomputable def laws_toBlockSS.f (l0 : List (List S_Block)) : Option ((List (List S_Block))) :=
  (if 0 ≤ (l0.length : Int) ∧ (l0.length : Int) ≤ 1073741824 then ((loopO (fun s => laws_toBlockSS.s0 l0 s.1 s.2) ((List.replicate ((l0.length : Int)).toNat ([] : List S_Block)), 0)).bind fun o => match o with | .out u17 => (some u17) | .ret r => (some r)) else none)
set_option maxRecDepth 100000 in
set_option maxHeartbeats 0 in
theorem laws_toBlockSS_t (w0 : World) (A0_ : Option Addr) (p0_ : Nat) (l0 : List (List S_Block)) (k0_ : Chunk) (v0_ : View (Lay.sl L_Block 83) A0_ p0_ l0 k0_) (w0_ : Has w0 k0_) (r : (List (List S_Block))) (H : laws_toBlockSS.f l0 = some r) :
    Calls Try.prog 122 #[.slice A0_ l0.length p0_] w0 (Ret (fun v w => ∃ (A0 : Option Addr) (p0 : Nat) (k0 : Chunk), v = .slice A0 r.length p0 ∧ Own (Lay.sl L_Block 81) 26 A0 p0 r k0 ∧ Sat [] w0 w [] [(0, k0)])) := by
  have hs : Sat [] w0 w0 [(1, k0_)] [] := Sat.init w0 [(1, k0_)] [] (by simp only [List.mem_cons, List.not_mem_nil, or_false]; rintro x (rfl) <;> assumption) (by simp) List.nodup_nil (by simp [blks])
  unfold laws_toBlockSS.f at H
  refine enter Try.func122 rfl Try.ntmps122 rfl fun a hk => ?_
  apply wp_seq_k; intro K1 hK1
  apply wp_region_lit
  refine sa _ rfl hk rfl rfl rfl fun a hk => ?_
  show wpList _ _ _ [] _ _
  refine wpList_nil ?_
  refine hK1 _ _ ?_
  apply wp_seq_k; intro K2 hK2
  apply wp_region_lit
  refine sm _ rfl hk rfl rfl rfl fun a hk => ?_
  refine sle rfl hk rfl rfl rfl un40 fun a hk => ?_
  rcases ite_some H with ⟨c3, H⟩ | ⟨_, H⟩
  rotate_left
  · cases H
  refine smk 2 (Lay.sl L_Block 81) hs rfl hk rfl rfl rfl rfl un49 mk26 lz26 rfl rfl c3.1 c3.2 fun b4 k5 w a hk o6 hs => ?_
  have lh7 : (List.replicate ((l0.length : Int)).toNat ([] : List S_Block)).length = ((l0.length : Int)).toNat := List.length_replicate
  refine sa _ rfl hk rfl rfl rfl fun a hk => ?_
  show wpList _ _ _ [] _ _
  refine wpList_nil ?_
  refine hK2 _ _ ?_
  apply wp_seq_k; intro K8 hK8
  apply wp_seq_k; intro K9 hK9
  apply wp_region_lit
  refine sa _ rfl hk rfl rfl rfl fun a hk => ?_
  show wpList _ _ _ [] _ _
  refine wpList_nil ?_
  refine hK9 _ _ ?_
  obtain ⟨o21, h22, HL23⟩ := bind_some H
  clear H
  obtain ⟨R24, hR24⟩ : ∃ R : Act → World → Prop, R = fun a w => ∃ (u17 : List (List S_Block)) (k18 : Chunk), o21 = .out u17 ∧ Kn [(3, (.slice (some ⟨b4, 0, none⟩) (((l0.length : Int)).toNat) (((l0.length : Int)).toNat)))] 23 a ∧ Sat [] w0 w [(1, k0_)] [(2, k18)] ∧ Own (Lay.sl L_Block 81) 26 (some ⟨b4, 0, none⟩) (((l0.length : Int)).toNat) u17 k18 ∧ u17.length = (((l0.length : Int)).toNat) := ⟨_, rfl⟩
  refine wp_cutq R24 ?_ ?_
  · refine wp_block ?_
    obtain ⟨fu26, h22⟩ := loopO_some h22
    obtain ⟨I25, hI25⟩ : ∃ I : Nat → Act → World → Prop, I = fun fu a w => ∃ (u12 : List (List S_Block)) (u16 : Int) (k13 : Chunk), loopN (fun s => laws_toBlockSS.s0 l0 s.1 s.2) fu (u12, u16) = some o21 ∧ Kn [(0, (.slice A0_ l0.length p0_)), (3, (.slice (some ⟨b4, 0, none⟩) (((l0.length : Int)).toNat) (((l0.length : Int)).toNat))), (4, (.int .i64 u16))] 23 a ∧ Sat [] w0 w [(1, k0_)] [(2, k13)] ∧ Own (Lay.sl L_Block 81) 26 (some ⟨b4, 0, none⟩) (((l0.length : Int)).toNat) u12 k13 ∧ u12.length = (((l0.length : Int)).toNat) := ⟨_, rfl⟩
    refine wp_loop_ghost I25 fu26 ?_ ?_
    · rw [hI25]
      exact ⟨(List.replicate ((l0.length : Int)).toNat ([] : List S_Block)), 0, _, h22, (hk.c 0 rfl (hk.c 3 rfl (hk.c 4 rfl hk.k))), (hs.pick [(2, 2)] rfl), o6, lh7⟩
    · clear h22 hk hs
      intro fu26 a w hI0
      rw [hI25] at hI0
      obtain ⟨u12, u16, k13, hi, hk, hs, o14, lh15⟩ := hI0
      obtain ⟨x27, H, h28⟩ := loop_round hi
      try dsimp only at H
      unfold laws_toBlockSS.s0 at H
      apply wp_seq_k; intro K29 hK29
      apply wp_seq_k; intro K30 hK30
      apply wp_region_lit
      refine sm _ rfl hk rfl rfl rfl fun a hk => ?_
      refine sm _ rfl hk rfl rfl rfl fun a hk => ?_
      refine sle rfl hk rfl rfl rfl un40 fun a hk => ?_
      refine sv (.bool (decide (u16 < (l0.length : Int)))) hk rfl rfl rfl fun a hk => ?_
      show wpList _ _ _ [] _ _
      refine wpList_nil ?_
      refine hK30 _ _ ?_
      rcases cond_some H with ⟨c31, H⟩ | ⟨c31, H⟩
      · have hk := hk.lit 11 c31 rfl
        refine cnd_true hk rfl rfl ?_
        refine wp_skip ?_
        refine hK29 _ _ ?_
        apply wp_seq_k; intro K32 hK32
        refine wp_block ?_
        apply wp_region_lit
        refine sm _ rfl hk rfl rfl rfl fun a hk => ?_
        refine sm _ rfl hk rfl rfl rfl fun a hk => ?_
        refine sm _ rfl hk rfl rfl rfl fun a hk => ?_
        refine sm _ rfl hk rfl rfl rfl fun a hk => ?_
        rcases ite_some H with ⟨c33, H⟩ | ⟨_, H⟩
        rotate_left
        · cases H
        obtain ⟨b34, q35, hAc33⟩ := (v0_).some_ u16 c33.1 c33.2
        refine si rfl hk rfl rfl rfl rfl un40 sz22 c33.1 c33.2 hAc33 fun a hk => ?_
        obtain ⟨_, ⟨_, rfl, A37, p38, rfl, v39⟩, e36⟩ := (v0_).at_ [] u16 c33.1 c33.2
        refine sl (v := (.slice A37 (l0.getD u16.toNat []).length p38)) rfl hk rfl rfl rfl ag22 ((e36 0 _ rfl).cell (hs.hasD (k := 1) rfl)) fun a hk => ?_
        obtain ⟨y40, h41, H⟩ := bind_some H
        refine sc rfl en13 hk rfl rfl rfl (laws_toBlockS_t _ A37 p38 (l0.getD u16.toNat []) _ v39 (hs.hasD (k := 1) rfl) _ h41) ?_
        rintro _ w ⟨A42, p43, k44, rfl, o45, hG⟩ a hk
        have hs := hs.call0k hG [4] rfl
        rcases ite_some H with ⟨c46, H⟩ | ⟨_, H⟩
        rotate_left
        · cases H
        obtain ⟨b47, q48, hAc46⟩ := (o14.view).some_ u16 c46.1 (by rw [lh15]; exact c46.2)
        refine si rfl hk rfl rfl rfl rfl un49 sz26 c46.1 c46.2 hAc46 fun a hk => ?_
        refine som 2 4 [] y40 hs rfl rfl o14 c46.1 (by rw [lh15]; exact c46.2) rfl hk rfl rfl rfl rfl rfl sz26 (by simp [Value.cells, Value.oneCell']) rfl ⟨_, rfl, o45.toV⟩ fun k49 w a hk o50 hs => ?_
        have lh51 : (u12.set u16.toNat y40).length = (((l0.length : Int)).toNat) := by rw [List.length_set]; exact lh15
        show wpList _ _ _ [] _ _
        refine wpList_nil ?_
        refine hK32 _ _ ?_
        apply wp_region_lit
        refine sm _ rfl hk rfl rfl rfl fun a hk => ?_
        refine sv (.int .i64 (w64 (u16 + 1))) hk rfl rfl rfl fun a hk => ?_
        refine sa _ rfl hk rfl rfl rfl fun a hk => ?_
        show wpList _ _ _ [] _ _
        refine wpList_nil ?_
        obtain rfl := Option.some.inj H
        obtain ⟨m52, hmm52, h28⟩ := h28
        show ∃ n', n' < _ ∧ I25 n' _ _
        refine ⟨m52, hmm52, ?_⟩
        rw [hI25]
        exact ⟨(u12.set u16.toNat y40), (w64 (u16 + 1)), _, h28, (hk.c 0 rfl (hk.c 3 rfl (hk.c 4 rfl hk.k))), (hs.pick [(2, 2)] rfl), o50, lh51⟩
      · have hk := hk.lit 11 c31 rfl
        refine cnd_false hk rfl rfl ?_
        refine wp_exit ?_
        obtain rfl := Option.some.inj H
        show R24 _ _
        rw [hR24]
        exact ⟨u12, _, h28.symm, (hk.c 3 rfl hk.k), (hs.pick [(2, 2)] rfl), o14, lh15⟩
  · intro a w hR0
    rw [hR24] at hR0
    obtain ⟨u17, k18, rfl, hk, hs, o19, lh20⟩ := hR0
    have H := HL23
    try dsimp only at H
    refine hK8 _ _ ?_
    apply wp_seq_k; intro K53 hK53
    apply wp_region_lit
    refine sm _ rfl hk rfl rfl rfl fun a hk => ?_
    refine sa _ rfl hk rfl rfl rfl fun a hk => ?_
    show wpList _ _ _ [] _ _
    refine wpList_nil ?_
    refine hK53 _ _ ?_
    refine wp_ret ?_
    obtain rfl := Option.some.inj H
    exact fin hk _ [(.slice (some ⟨b4, 0, none⟩) (((l0.length : Int)).toNat) (((l0.length : Int)).toNat))] rfl ⟨rfl, trivial⟩ ⟨(some ⟨b4, 0, none⟩), (((l0.length : Int)).toNat), _, (by first | (rw [lh20]; done) | (rw [lh20]; rfl)), o19, (hs.pick [(0, 2)] rfl).dnil⟩

noncomputable def laws_toOram.f (x0 : S_Oram) : Option (S_Oram) :=
  ((laws_toIntS.f x0.Pos).bind fun y7 => ((laws_toBlockS.f x0.Stash).bind fun y14 => ((laws_toBlockSS.f x0.Buckets).bind fun y21 => (some (⟨y7, y14, y21⟩ : S_Oram)))))
set_option maxRecDepth 100000 in
set_option maxHeartbeats 0 in
theorem laws_toOram_t (w0 : World) (x0 : S_Oram) (A0_0 : Option Addr) (p0_0 : Nat) (k0_0 : Chunk) (v0_0 : View (Lay.int .i64) A0_0 p0_0 x0.Pos k0_0) (w0_0 : Has w0 k0_0) (A0_1 : Option Addr) (p0_1 : Nat) (k0_1 : Chunk) (v0_1 : View L_Block A0_1 p0_1 x0.Stash k0_1) (w0_1 : Has w0 k0_1) (A0_2 : Option Addr) (p0_2 : Nat) (k0_2 : Chunk) (v0_2 : View (Lay.sl L_Block 83) A0_2 p0_2 x0.Buckets k0_2) (w0_2 : Has w0 k0_2) (r : S_Oram) (H : laws_toOram.f x0 = some r) :
    Calls Try.prog 74 #[.agg #[.slice A0_0 x0.Pos.length p0_0, .slice A0_1 x0.Stash.length p0_1, .slice A0_2 x0.Buckets.length p0_2]] w0 (Ret (fun v w => ∃ (A0 : Option Addr) (p0 : Nat) (k0 : Chunk), ∃ (A1 : Option Addr) (p1 : Nat) (k1 : Chunk), ∃ (A2 : Option Addr) (p2 : Nat) (k2 : Chunk), v = .agg #[.slice A0 r.Pos.length p0, .slice A1 r.Stash.length p1, .slice A2 r.Buckets.length p2] ∧ Own (Lay.int .i64) 3 A0 p0 r.Pos k0 ∧ Own L_Block 81 A1 p1 r.Stash k1 ∧ Own (Lay.sl L_Block 81) 26 A2 p2 r.Buckets k2 ∧ Sat [] w0 w [] [(0, k0), (1, k1), (2, k2)])) := by
  have hs : Sat [] w0 w0 [(1, k0_0), (2, k0_1), (3, k0_2)] [] := Sat.init w0 [(1, k0_0), (2, k0_1), (3, k0_2)] [] (by simp only [List.mem_cons, List.not_mem_nil, or_false]; rintro x (rfl | rfl | rfl) <;> assumption) (by simp) List.nodup_nil (by simp [blks])
  unfold laws_toOram.f at H
  refine enter Try.func74 rfl Try.ntmps74 rfl fun a hk => ?_
  apply wp_seq_k; intro K1 hK1
  apply wp_region_lit
  refine sbx 4 hs rfl hk rfl rfl rfl rfl fun b2 w a hk hs => ?_
  refine salx 5 hs rfl hk rfl rfl ze51 rfl fun b3 w a hk hs => ?_
  show wpList _ _ _ [] _ _
  refine wpList_nil ?_
  refine hK1 _ _ ?_
  apply wp_seq_k; intro K4 hK4
  apply wp_region_lit
  refine salx 6 hs rfl hk rfl rfl ze51 rfl fun b5 w a hk hs => ?_
  show wpList _ _ _ [] _ _
  refine wpList_nil ?_
  refine hK4 _ _ ?_
  apply wp_seq_k; intro K6 hK6
  apply wp_region_lit
  refine sf ⟨b2, 0, none⟩ rfl hk rfl rfl rfl fd42_0 rfl fun a hk => ?_
  refine sl rfl hk rfl rfl rfl ag31 (box_cell hs (k := 4) rfl rfl) fun a hk => ?_
  obtain ⟨y7, h8, H⟩ := bind_some H
  refine sc rfl en19 hk rfl rfl rfl (laws_toIntS_t _ A0_0 p0_0 x0.Pos _ v0_0 (hs.hasD (k := 1) rfl) _ h8) ?_
  rintro _ w ⟨A9, p10, k11, rfl, o12, hG⟩ a hk
  have hs := hs.call0k hG [7] rfl
  refine sf ⟨b5, 0, none⟩ rfl hk rfl rfl rfl fd51_0 rfl fun a hk => ?_
  refine ssx (cs' := #[.slice A9 y7.length p10, .slice none 0 0, .slice none 0 0]) 6 hs rfl rfl hk rfl rfl rfl rfl sz31 rfl rfl rfl rfl fun w a hk hs => ?_
  show wpList _ _ _ [] _ _
  refine wpList_nil ?_
  refine hK6 _ _ ?_
  apply wp_seq_k; intro K13 hK13
  apply wp_region_lit
  refine sf ⟨b2, 1, none⟩ rfl hk rfl rfl rfl fd42_1 rfl fun a hk => ?_
  refine sl rfl hk rfl rfl rfl ag22 (box_cell hs (k := 4) rfl rfl) fun a hk => ?_
  obtain ⟨y14, h15, H⟩ := bind_some H
  refine sc rfl en13 hk rfl rfl rfl (laws_toBlockS_t _ A0_1 p0_1 x0.Stash _ v0_1 (hs.hasD (k := 2) rfl) _ h15) ?_
  rintro _ w ⟨A16, p17, k18, rfl, o19, hG⟩ a hk
  have hs := hs.call0k hG [8] rfl
  refine sf ⟨b5, 1, none⟩ rfl hk rfl rfl rfl fd51_1 rfl fun a hk => ?_
  refine ssx (cs' := #[.slice A9 y7.length p10, .slice A16 y14.length p17, .slice none 0 0]) 6 hs rfl rfl hk rfl rfl rfl rfl sz26 rfl rfl rfl rfl fun w a hk hs => ?_
  show wpList _ _ _ [] _ _
  refine wpList_nil ?_
  refine hK13 _ _ ?_
  apply wp_seq_k; intro K20 hK20
  apply wp_region_lit
  refine sf ⟨b2, 2, none⟩ rfl hk rfl rfl rfl fd42_2 rfl fun a hk => ?_
  refine sl rfl hk rfl rfl rfl ag40 (box_cell hs (k := 4) rfl rfl) fun a hk => ?_
  obtain ⟨y21, h22, H⟩ := bind_some H
  refine sc rfl en122 hk rfl rfl rfl (laws_toBlockSS_t _ A0_2 p0_2 x0.Buckets _ v0_2 (hs.hasD (k := 3) rfl) _ h22) ?_
  rintro _ w ⟨A23, p24, k25, rfl, o26, hG⟩ a hk
  have hs := hs.call0k hG [9] rfl
  refine sf ⟨b5, 2, none⟩ rfl hk rfl rfl rfl fd51_2 rfl fun a hk => ?_
  refine ssx (cs' := #[.slice A9 y7.length p10, .slice A16 y14.length p17, .slice A23 y21.length p24]) 6 hs rfl rfl hk rfl rfl rfl rfl sz49 rfl rfl rfl rfl fun w a hk hs => ?_
  show wpList _ _ _ [] _ _
  refine wpList_nil ?_
  refine hK20 _ _ ?_
  apply wp_seq_k; intro K27 hK27
  apply wp_region_lit
  refine sln [.slice A9 y7.length p10, .slice A16 y14.length p17, .slice A23 y21.length p24] rfl hk rfl rfl rfl ag51 sz51 (box_cells hs (k := 6) rfl) fun a hk => ?_
  refine ssw 5 hs rfl rfl hk rfl rfl rfl rfl sz51 (by simp [Value.oneCell']) rfl fun w a hk hs => ?_
  show wpList _ _ _ [] _ _
  refine wpList_nil ?_
  refine hK27 _ _ ?_
  refine wp_ret ?_
  obtain rfl := Option.some.inj H
  exact fin hk _ [(.agg #[.slice A9 y7.length p10, .slice A16 y14.length p17, .slice A23 y21.length p24])] rfl ⟨⟨_, rfl, run_loadN ag51 sz51 (box_cells hs (k := 5) rfl)⟩, trivial⟩ ⟨A9, p10, _, A16, p17, _, A23, p24, _, rfl, o12, o19, o26, (hs.pick [(0, 7), (1, 8), (2, 9)] rfl).dnil⟩

noncomputable def laws_toEnc.f (x0 : S_Enc) : Option (S_Enc) :=
  ((laws_toIntS.f x0.Keys).bind fun y7 => ((laws_toOram.f x0.Oram).bind fun y14 => (some (⟨y7, y14⟩ : S_Enc))))
set_option maxRecDepth 100000 in
set_option maxHeartbeats 0 in
theorem laws_toEnc_t (w0 : World) (x0 : S_Enc) (A0_0 : Option Addr) (p0_0 : Nat) (k0_0 : Chunk) (v0_0 : View (Lay.int .i64) A0_0 p0_0 x0.Keys k0_0) (w0_0 : Has w0 k0_0) (A0_1 : Option Addr) (p0_1 : Nat) (k0_1 : Chunk) (v0_1 : View (Lay.int .i64) A0_1 p0_1 x0.Oram.Pos k0_1) (w0_1 : Has w0 k0_1) (A0_2 : Option Addr) (p0_2 : Nat) (k0_2 : Chunk) (v0_2 : View L_Block A0_2 p0_2 x0.Oram.Stash k0_2) (w0_2 : Has w0 k0_2) (A0_3 : Option Addr) (p0_3 : Nat) (k0_3 : Chunk) (v0_3 : View (Lay.sl L_Block 83) A0_3 p0_3 x0.Oram.Buckets k0_3) (w0_3 : Has w0 k0_3) (r : S_Enc) (H : laws_toEnc.f x0 = some r) :
    Calls Try.prog 26 #[.agg #[.slice A0_0 x0.Keys.length p0_0, .slice A0_1 x0.Oram.Pos.length p0_1, .slice A0_2 x0.Oram.Stash.length p0_2, .slice A0_3 x0.Oram.Buckets.length p0_3]] w0 (Ret (fun v w => ∃ (A0 : Option Addr) (p0 : Nat) (k0 : Chunk), ∃ (A1 : Option Addr) (p1 : Nat) (k1 : Chunk), ∃ (A2 : Option Addr) (p2 : Nat) (k2 : Chunk), ∃ (A3 : Option Addr) (p3 : Nat) (k3 : Chunk), v = .agg #[.slice A0 r.Keys.length p0, .slice A1 r.Oram.Pos.length p1, .slice A2 r.Oram.Stash.length p2, .slice A3 r.Oram.Buckets.length p3] ∧ Own (Lay.int .i64) 3 A0 p0 r.Keys k0 ∧ Own (Lay.int .i64) 3 A1 p1 r.Oram.Pos k1 ∧ Own L_Block 81 A2 p2 r.Oram.Stash k2 ∧ Own (Lay.sl L_Block 81) 26 A3 p3 r.Oram.Buckets k3 ∧ Sat [] w0 w [] [(0, k0), (1, k1), (2, k2), (3, k3)])) := by
  have hs : Sat [] w0 w0 [(1, k0_0), (2, k0_1), (3, k0_2), (4, k0_3)] [] := Sat.init w0 [(1, k0_0), (2, k0_1), (3, k0_2), (4, k0_3)] [] (by simp only [List.mem_cons, List.not_mem_nil, or_false]; rintro x (rfl | rfl | rfl | rfl) <;> assumption) (by simp) List.nodup_nil (by simp [blks])
  unfold laws_toEnc.f at H
  refine enter Try.func26 rfl Try.ntmps26 rfl fun a hk => ?_
  apply wp_seq_k; intro K1 hK1
  apply wp_region_lit
  refine sbx 5 hs rfl hk rfl rfl rfl rfl fun b2 w a hk hs => ?_
  refine salx 6 hs rfl hk rfl rfl ze53 rfl fun b3 w a hk hs => ?_
  show wpList _ _ _ [] _ _
  refine wpList_nil ?_
  refine hK1 _ _ ?_
  apply wp_seq_k; intro K4 hK4
  apply wp_region_lit
  refine salx 7 hs rfl hk rfl rfl ze53 rfl fun b5 w a hk hs => ?_
  show wpList _ _ _ [] _ _
  refine wpList_nil ?_
  refine hK4 _ _ ?_
  apply wp_seq_k; intro K6 hK6
  apply wp_region_lit
  refine sf ⟨b2, 0, none⟩ rfl hk rfl rfl rfl fd44_0 rfl fun a hk => ?_
  refine sl rfl hk rfl rfl rfl ag31 (box_cell hs (k := 5) rfl rfl) fun a hk => ?_
  obtain ⟨y7, h8, H⟩ := bind_some H
  refine sc rfl en19 hk rfl rfl rfl (laws_toIntS_t _ A0_0 p0_0 x0.Keys _ v0_0 (hs.hasD (k := 1) rfl) _ h8) ?_
  rintro _ w ⟨A9, p10, k11, rfl, o12, hG⟩ a hk
  have hs := hs.call0k hG [8] rfl
  refine sf ⟨b5, 0, none⟩ rfl hk rfl rfl rfl fd53_0 rfl fun a hk => ?_
  refine ssx (cs' := #[.slice A9 y7.length p10, .slice none 0 0, .slice none 0 0, .slice none 0 0]) 7 hs rfl rfl hk rfl rfl rfl rfl sz31 rfl rfl rfl rfl fun w a hk hs => ?_
  show wpList _ _ _ [] _ _
  refine wpList_nil ?_
  refine hK6 _ _ ?_
  apply wp_seq_k; intro K13 hK13
  apply wp_region_lit
  refine sf ⟨b2, 1, none⟩ rfl hk rfl rfl rfl fd44_1 rfl fun a hk => ?_
  refine sln [.slice A0_1 x0.Oram.Pos.length p0_1, .slice A0_2 x0.Oram.Stash.length p0_2, .slice A0_3 x0.Oram.Buckets.length p0_3] rfl hk rfl rfl rfl ag42 sz42 (box_part hs (k := 5) rfl rfl) fun a hk => ?_
  obtain ⟨y14, h15, H⟩ := bind_some H
  refine sc rfl en74 hk rfl rfl rfl (laws_toOram_t _ x0.Oram A0_1 p0_1 _ v0_1 (hs.hasD (k := 2) rfl) A0_2 p0_2 _ v0_2 (hs.hasD (k := 3) rfl) A0_3 p0_3 _ v0_3 (hs.hasD (k := 4) rfl) _ h15) ?_
  rintro _ w ⟨A16, p17, k18, A20, p21, k22, A24, p25, k26, rfl, o19, o23, o27, hG⟩ a hk
  have hs := hs.call0k hG [9, 10, 11] rfl
  refine sf ⟨b5, 1, none⟩ rfl hk rfl rfl rfl fd53_1 rfl fun a hk => ?_
  refine ssp (cs' := #[.slice A9 y7.length p10, .slice A16 y14.Pos.length p17, .slice A20 y14.Stash.length p21, .slice A24 y14.Buckets.length p25]) 7 hs rfl rfl hk rfl rfl rfl rfl sz51 (by simp [Value.oneCell']) rfl rfl fun w a hk hs => ?_
  show wpList _ _ _ [] _ _
  refine wpList_nil ?_
  refine hK13 _ _ ?_
  apply wp_seq_k; intro K28 hK28
  apply wp_region_lit
  refine sln [.slice A9 y7.length p10, .slice A16 y14.Pos.length p17, .slice A20 y14.Stash.length p21, .slice A24 y14.Buckets.length p25] rfl hk rfl rfl rfl ag53 sz53 (box_cells hs (k := 7) rfl) fun a hk => ?_
  refine ssw 6 hs rfl rfl hk rfl rfl rfl rfl sz53 (by simp [Value.oneCell']) rfl fun w a hk hs => ?_
  show wpList _ _ _ [] _ _
  refine wpList_nil ?_
  refine hK28 _ _ ?_
  refine wp_ret ?_
  obtain rfl := Option.some.inj H
  exact fin hk _ [(.agg #[.slice A9 y7.length p10, .slice A16 y14.Pos.length p17, .slice A20 y14.Stash.length p21, .slice A24 y14.Buckets.length p25])] rfl ⟨⟨_, rfl, run_loadN ag53 sz53 (box_cells hs (k := 6) rfl)⟩, trivial⟩ ⟨A9, p10, _, A16, p17, _, A20, p21, _, A24, p25, _, rfl, o12, o19, o23, o27, (hs.pick [(0, 8), (1, 9), (2, 10), (3, 11)] rfl).dnil⟩

noncomputable def laws_toResult.f (x0 : S_Result) : Option (S_Result) :=
  ((laws_toIntS.f x0.Values).bind fun y8 => (some (⟨x0.Code, y8⟩ : S_Result)))
set_option maxRecDepth 100000 in
set_option maxHeartbeats 0 in
theorem laws_toResult_t (w0 : World) (x0 : S_Result) (A0_0 : Option Addr) (p0_0 : Nat) (k0_0 : Chunk) (v0_0 : View (Lay.int .i64) A0_0 p0_0 x0.Values k0_0) (w0_0 : Has w0 k0_0) (r : S_Result) (H : laws_toResult.f x0 = some r) :
    Calls Try.prog 75 #[.agg #[.int .i64 x0.Code, .slice A0_0 x0.Values.length p0_0]] w0 (Ret (fun v w => ∃ (A0 : Option Addr) (p0 : Nat) (k0 : Chunk), v = .agg #[.int .i64 r.Code, .slice A0 r.Values.length p0] ∧ Own (Lay.int .i64) 3 A0 p0 r.Values k0 ∧ Sat [] w0 w [] [(0, k0)])) := by
  have hs : Sat [] w0 w0 [(1, k0_0)] [] := Sat.init w0 [(1, k0_0)] [] (by simp only [List.mem_cons, List.not_mem_nil, or_false]; rintro x (rfl) <;> assumption) (by simp) List.nodup_nil (by simp [blks])
  unfold laws_toResult.f at H
  refine enter Try.func75 rfl Try.ntmps75 rfl fun a hk => ?_
  apply wp_seq_k; intro K1 hK1
  apply wp_region_lit
  refine sbx 2 hs rfl hk rfl rfl rfl rfl fun b2 w a hk hs => ?_
  refine salx 3 hs rfl hk rfl rfl ze105 rfl fun b3 w a hk hs => ?_
  show wpList _ _ _ [] _ _
  refine wpList_nil ?_
  refine hK1 _ _ ?_
  apply wp_seq_k; intro K4 hK4
  apply wp_region_lit
  refine salx 4 hs rfl hk rfl rfl ze105 rfl fun b5 w a hk hs => ?_
  show wpList _ _ _ [] _ _
  refine wpList_nil ?_
  refine hK4 _ _ ?_
  apply wp_seq_k; intro K6 hK6
  apply wp_region_lit
  refine sf ⟨b2, 0, none⟩ rfl hk rfl rfl rfl fd101_0 rfl fun a hk => ?_
  refine sl rfl hk rfl rfl rfl ag3 (box_cell hs (k := 2) rfl rfl) fun a hk => ?_
  refine sf ⟨b5, 0, none⟩ rfl hk rfl rfl rfl fd105_0 rfl fun a hk => ?_
  refine ssx (cs' := #[.int .i64 x0.Code, .slice none 0 0]) 4 hs rfl rfl hk rfl rfl rfl rfl sz3 rfl rfl rfl rfl fun w a hk hs => ?_
  show wpList _ _ _ [] _ _
  refine wpList_nil ?_
  refine hK6 _ _ ?_
  apply wp_seq_k; intro K7 hK7
  apply wp_region_lit
  refine sf ⟨b2, 1, none⟩ rfl hk rfl rfl rfl fd101_1 rfl fun a hk => ?_
  refine sl rfl hk rfl rfl rfl ag31 (box_cell hs (k := 2) rfl rfl) fun a hk => ?_
  obtain ⟨y8, h9, H⟩ := bind_some H
  refine sc rfl en19 hk rfl rfl rfl (laws_toIntS_t _ A0_0 p0_0 x0.Values _ v0_0 (hs.hasD (k := 1) rfl) _ h9) ?_
  rintro _ w ⟨A10, p11, k12, rfl, o13, hG⟩ a hk
  have hs := hs.call0k hG [5] rfl
  refine sf ⟨b5, 1, none⟩ rfl hk rfl rfl rfl fd105_1 rfl fun a hk => ?_
  refine ssx (cs' := #[.int .i64 x0.Code, .slice A10 y8.length p11]) 4 hs rfl rfl hk rfl rfl rfl rfl sz31 rfl rfl rfl rfl fun w a hk hs => ?_
  show wpList _ _ _ [] _ _
  refine wpList_nil ?_
  refine hK7 _ _ ?_
  apply wp_seq_k; intro K14 hK14
  apply wp_region_lit
  refine sln [.int .i64 x0.Code, .slice A10 y8.length p11] rfl hk rfl rfl rfl ag105 sz105 (box_cells hs (k := 4) rfl) fun a hk => ?_
  refine ssw 3 hs rfl rfl hk rfl rfl rfl rfl sz105 (by simp [Value.oneCell']) rfl fun w a hk hs => ?_
  show wpList _ _ _ [] _ _
  refine wpList_nil ?_
  refine hK14 _ _ ?_
  refine wp_ret ?_
  obtain rfl := Option.some.inj H
  exact fin hk _ [(.agg #[.int .i64 x0.Code, .slice A10 y8.length p11])] rfl ⟨⟨_, rfl, run_loadN ag105 sz105 (box_cells hs (k := 3) rfl)⟩, trivial⟩ ⟨A10, p11, _, rfl, o13, (hs.pick [(0, 5)] rfl).dnil⟩

noncomputable def laws_toResultS.s0 (l0 : List S_Result) (u12 : List S_Result) (u16 : Int) : Option (((List S_Result) × Int) ⊕ Ex ((List S_Result)) ((List S_Result))) :=
  (bif (decide (u16 < (l0.length : Int))) then (if 0 ≤ u16 ∧ u16 < (l0.length : Int) then ((laws_toResult.f (l0.getD u16.toNat z_Result)).bind fun y40 => (if 0 ≤ u16 ∧ u16 < ((((l0.length : Int)).toNat) : Int) then (some (.inl ((u12.set u16.toNat y40), (w64 (u16 + 1))))) else none)) else none) else (some (.inr (.out u12))))
noncomputable def laws_toResultS.f (l0 : List S_Result) : Option ((List S_Result)) :=
  (if 0 ≤ (l0.length : Int) ∧ (l0.length : Int) ≤ 1073741824 then ((loopO (fun s => laws_toResultS.s0 l0 s.1 s.2) ((List.replicate ((l0.length : Int)).toNat z_Result), 0)).bind fun o => match o with | .out u17 => (some u17) | .ret r => (some r)) else none)
set_option maxRecDepth 100000 in
set_option maxHeartbeats 0 in
theorem laws_toResultS_t (w0 : World) (A0_ : Option Addr) (p0_ : Nat) (l0 : List S_Result) (k0_ : Chunk) (v0_ : View L_laws_Result A0_ p0_ l0 k0_) (w0_ : Has w0 k0_) (r : (List S_Result)) (H : laws_toResultS.f l0 = some r) :
    Calls Try.prog 27 #[.slice A0_ l0.length p0_] w0 (Ret (fun v w => ∃ (A0 : Option Addr) (p0 : Nat) (k0 : Chunk), v = .slice A0 r.length p0 ∧ Own L_impl_Result 105 A0 p0 r k0 ∧ Sat [] w0 w [] [(0, k0)])) := by
  have hs : Sat [] w0 w0 [(1, k0_)] [] := Sat.init w0 [(1, k0_)] [] (by simp only [List.mem_cons, List.not_mem_nil, or_false]; rintro x (rfl) <;> assumption) (by simp) List.nodup_nil (by simp [blks])
  unfold laws_toResultS.f at H
  refine enter Try.func27 rfl Try.ntmps27 rfl fun a hk => ?_
  apply wp_seq_k; intro K1 hK1
  apply wp_region_lit
  refine sa _ rfl hk rfl rfl rfl fun a hk => ?_
  show wpList _ _ _ [] _ _
  refine wpList_nil ?_
  refine hK1 _ _ ?_
  apply wp_seq_k; intro K2 hK2
  apply wp_region_lit
  refine sm _ rfl hk rfl rfl rfl fun a hk => ?_
  refine sle rfl hk rfl rfl rfl un45 fun a hk => ?_
  rcases ite_some H with ⟨c3, H⟩ | ⟨_, H⟩
  rotate_left
  · cases H
  refine smk 2 L_impl_Result hs rfl hk rfl rfl rfl rfl un55 mk105 lz105 rfl rfl c3.1 c3.2 fun b4 k5 w a hk o6 hs => ?_
  have lh7 : (List.replicate ((l0.length : Int)).toNat z_Result).length = ((l0.length : Int)).toNat := List.length_replicate
  refine sa _ rfl hk rfl rfl rfl fun a hk => ?_
  show wpList _ _ _ [] _ _
  refine wpList_nil ?_
  refine hK2 _ _ ?_
  apply wp_seq_k; intro K8 hK8
  apply wp_seq_k; intro K9 hK9
  apply wp_region_lit
  refine sa _ rfl hk rfl rfl rfl fun a hk => ?_
  show wpList _ _ _ [] _ _
  refine wpList_nil ?_
  refine hK9 _ _ ?_
  obtain ⟨o21, h22, HL23⟩ := bind_some H
  clear H
  obtain ⟨R24, hR24⟩ : ∃ R : Act → World → Prop, R = fun a w => ∃ (u17 : List S_Result) (k18 : Chunk), o21 = .out u17 ∧ Kn [(3, (.slice (some ⟨b4, 0, none⟩) (((l0.length : Int)).toNat) (((l0.length : Int)).toNat)))] 23 a ∧ Sat [] w0 w [(1, k0_)] [(2, k18)] ∧ Own L_impl_Result 105 (some ⟨b4, 0, none⟩) (((l0.length : Int)).toNat) u17 k18 ∧ u17.length = (((l0.length : Int)).toNat) := ⟨_, rfl⟩
  refine wp_cutq R24 ?_ ?_
  · refine wp_block ?_
    obtain ⟨fu26, h22⟩ := loopO_some h22
    obtain ⟨I25, hI25⟩ : ∃ I : Nat → Act → World → Prop, I = fun fu a w => ∃ (u12 : List S_Result) (u16 : Int) (k13 : Chunk), loopN (fun s => laws_toResultS.s0 l0 s.1 s.2) fu (u12, u16) = some o21 ∧ Kn [(0, (.slice A0_ l0.length p0_)), (3, (.slice (some ⟨b4, 0, none⟩) (((l0.length : Int)).toNat) (((l0.length : Int)).toNat))), (4, (.int .i64 u16))] 23 a ∧ Sat [] w0 w [(1, k0_)] [(2, k13)] ∧ Own L_impl_Result 105 (some ⟨b4, 0, none⟩) (((l0.length : Int)).toNat) u12 k13 ∧ u12.length = (((l0.length : Int)).toNat) := ⟨_, rfl⟩
    refine wp_loop_ghost I25 fu26 ?_ ?_
    · rw [hI25]
      exact ⟨(List.replicate ((l0.length : Int)).toNat z_Result), 0, _, h22, (hk.c 0 rfl (hk.c 3 rfl (hk.c 4 rfl hk.k))), (hs.pick [(2, 2)] rfl), o6, lh7⟩
    · clear h22 hk hs
      intro fu26 a w hI0
      rw [hI25] at hI0
      obtain ⟨u12, u16, k13, hi, hk, hs, o14, lh15⟩ := hI0
      obtain ⟨x27, H, h28⟩ := loop_round hi
      try dsimp only at H
      unfold laws_toResultS.s0 at H
      apply wp_seq_k; intro K29 hK29
      apply wp_seq_k; intro K30 hK30
      apply wp_region_lit
      refine sm _ rfl hk rfl rfl rfl fun a hk => ?_
      refine sm _ rfl hk rfl rfl rfl fun a hk => ?_
      refine sle rfl hk rfl rfl rfl un45 fun a hk => ?_
      refine sv (.bool (decide (u16 < (l0.length : Int)))) hk rfl rfl rfl fun a hk => ?_
      show wpList _ _ _ [] _ _
      refine wpList_nil ?_
      refine hK30 _ _ ?_
      rcases cond_some H with ⟨c31, H⟩ | ⟨c31, H⟩
      · have hk := hk.lit 11 c31 rfl
        refine cnd_true hk rfl rfl ?_
        refine wp_skip ?_
        refine hK29 _ _ ?_
        apply wp_seq_k; intro K32 hK32
        refine wp_block ?_
        apply wp_region_lit
        refine sm _ rfl hk rfl rfl rfl fun a hk => ?_
        refine sm _ rfl hk rfl rfl rfl fun a hk => ?_
        refine sm _ rfl hk rfl rfl rfl fun a hk => ?_
        refine sm _ rfl hk rfl rfl rfl fun a hk => ?_
        rcases ite_some H with ⟨c33, H⟩ | ⟨_, H⟩
        rotate_left
        · cases H
        obtain ⟨b34, q35, hAc33⟩ := (v0_).some_ u16 c33.1 c33.2
        refine si rfl hk rfl rfl rfl rfl un45 sz101 c33.1 c33.2 hAc33 fun a hk => ?_
        obtain ⟨_, ⟨_, _, rfl, rfl, ⟨_, rfl, A37, p38, rfl, v39⟩⟩, e36⟩ := (v0_).at_ z_Result u16 c33.1 c33.2
        refine sln [.int .i64 ((l0.getD u16.toNat z_Result).Code), .slice A37 ((l0.getD u16.toNat z_Result).Values).length p38] rfl hk rfl rfl rfl ag101 sz101 (cells_at e36 (hs.hasD (k := 1) rfl)) fun a hk => ?_
        obtain ⟨y40, h41, H⟩ := bind_some H
        refine sc rfl en75 hk rfl rfl rfl (laws_toResult_t _ (l0.getD u16.toNat z_Result) A37 p38 _ v39 (hs.hasD (k := 1) rfl) _ h41) ?_
        rintro _ w ⟨A42, p43, k44, rfl, o45, hG⟩ a hk
        have hs := hs.call0k hG [4] rfl
        rcases ite_some H with ⟨c46, H⟩ | ⟨_, H⟩
        rotate_left
        · cases H
        obtain ⟨b47, q48, hAc46⟩ := (o14.view).some_ u16 c46.1 (by rw [lh15]; exact c46.2)
        refine si rfl hk rfl rfl rfl rfl un55 sz105 c46.1 c46.2 hAc46 fun a hk => ?_
        refine som 2 4 z_Result y40 hs rfl rfl o14 c46.1 (by rw [lh15]; exact c46.2) rfl hk rfl rfl rfl rfl rfl sz105 (by simp [Value.cells, Value.oneCell']) rfl ⟨[.int .i64 y40.Code], [.slice A42 y40.Values.length p43], [], _, rfl, rfl, ⟨rfl, rfl⟩, ⟨_, rfl, o45.toV⟩⟩ fun k49 w a hk o50 hs => ?_
        have lh51 : (u12.set u16.toNat y40).length = (((l0.length : Int)).toNat) := by rw [List.length_set]; exact lh15
        show wpList _ _ _ [] _ _
        refine wpList_nil ?_
        refine hK32 _ _ ?_
        apply wp_region_lit
        refine sm _ rfl hk rfl rfl rfl fun a hk => ?_
        refine sv (.int .i64 (w64 (u16 + 1))) hk rfl rfl rfl fun a hk => ?_
        refine sa _ rfl hk rfl rfl rfl fun a hk => ?_
        show wpList _ _ _ [] _ _
        refine wpList_nil ?_
        obtain rfl := Option.some.inj H
        obtain ⟨m52, hmm52, h28⟩ := h28
        show ∃ n', n' < _ ∧ I25 n' _ _
        refine ⟨m52, hmm52, ?_⟩
        rw [hI25]
        exact ⟨(u12.set u16.toNat y40), (w64 (u16 + 1)), _, h28, (hk.c 0 rfl (hk.c 3 rfl (hk.c 4 rfl hk.k))), (hs.pick [(2, 2)] rfl), o50, lh51⟩
      · have hk := hk.lit 11 c31 rfl
        refine cnd_false hk rfl rfl ?_
        refine wp_exit ?_
        obtain rfl := Option.some.inj H
        show R24 _ _
        rw [hR24]
        exact ⟨u12, _, h28.symm, (hk.c 3 rfl hk.k), (hs.pick [(2, 2)] rfl), o14, lh15⟩
  · intro a w hR0
    rw [hR24] at hR0
    obtain ⟨u17, k18, rfl, hk, hs, o19, lh20⟩ := hR0
    have H := HL23
    try dsimp only at H
    refine hK8 _ _ ?_
    apply wp_seq_k; intro K53 hK53
    apply wp_region_lit
    refine sm _ rfl hk rfl rfl rfl fun a hk => ?_
    refine sa _ rfl hk rfl rfl rfl fun a hk => ?_
    show wpList _ _ _ [] _ _
    refine wpList_nil ?_
    refine hK53 _ _ ?_
    refine wp_ret ?_
    obtain rfl := Option.some.inj H
    exact fin hk _ [(.slice (some ⟨b4, 0, none⟩) (((l0.length : Int)).toNat) (((l0.length : Int)).toNat))] rfl ⟨rfl, trivial⟩ ⟨(some ⟨b4, 0, none⟩), (((l0.length : Int)).toNat), _, (by first | (rw [lh20]; done) | (rw [lh20]; rfl)), o19, (hs.pick [(0, 2)] rfl).dnil⟩

noncomputable def impl_within.f (x0 : Int) (x1 : Int) (x2 : Int) : Option (Bool) :=
  (((bif (decide (x1 ≤ x0)) then (some (decide (x0 ≤ x2))) else (some false)) : Option (Bool)).bind fun u4 => (some u4))
set_option maxRecDepth 100000 in
set_option maxHeartbeats 0 in
theorem impl_within_t (w0 : World) (x0 : Int) (x1 : Int) (x2 : Int) (r : Bool) (H : impl_within.f x0 x1 x2 = some r) :
    Calls Try.prog 115 #[.int .i64 x0, .int .i64 x1, .int .i64 x2] w0 (Ret (fun v w => v = .bool r ∧ Sat [] w0 w [] [])) := by
  have hs : Sat [] w0 w0 [] [] := Sat.init w0 [] [] (by simp) (by simp) List.nodup_nil (by simp [blks])
  unfold impl_within.f at H
  refine enter Try.func115 rfl Try.ntmps115 rfl fun a hk => ?_
  apply wp_seq_k; intro K1 hK1
  apply wp_region_lit
  refine sa _ rfl hk rfl rfl rfl fun a hk => ?_
  show wpList _ _ _ [] _ _
  refine wpList_nil ?_
  refine hK1 _ _ ?_
  apply wp_seq_k; intro K2 hK2
  obtain ⟨o5, h6, HL7⟩ := bind_some H
  clear H
  obtain ⟨R8, hR8⟩ : ∃ R : Act → World → Prop, R = fun a w => ∃ (u4 : Bool), u4 = o5 ∧ Kn [(6, (.bool u4))] 15 a ∧ Sat [] w0 w [] [] := ⟨_, rfl⟩
  refine wp_cutq R8 ?_ ?_
  · have H := h6
    apply wp_region_lit
    refine sm _ rfl hk rfl rfl rfl fun a hk => ?_
    refine sm _ rfl hk rfl rfl rfl fun a hk => ?_
    refine sv (.bool (decide (x1 ≤ x0))) hk rfl rfl rfl fun a hk => ?_
    refine sm _ rfl hk rfl rfl rfl fun a hk => ?_
    rcases cond_some H with ⟨c9, H⟩ | ⟨c9, H⟩
    · have hk := hk.lit 10 c9 rfl
      refine sm _ rfl hk rfl rfl rfl fun a hk => ?_
      refine sm _ rfl hk rfl rfl rfl fun a hk => ?_
      refine sv (.bool (decide (x0 ≤ x2))) hk rfl rfl rfl fun a hk => ?_
      refine sv (.bool (decide (x0 ≤ x2))) hk rfl rfl rfl fun a hk => ?_
      refine sa _ rfl hk rfl rfl rfl fun a hk => ?_
      show wpList _ _ _ [] _ _
      refine wpList_nil ?_
      obtain rfl := Option.some.inj H
      show R8 _ _
      rw [hR8]
      exact ⟨(decide (x0 ≤ x2)), rfl, (hk.c 6 rfl hk.k), (hs.pick [] rfl)⟩
    · have hk := hk.lit 10 c9 rfl
      refine sk hk rfl rfl rfl fun a hk => ?_
      refine sk hk rfl rfl rfl fun a hk => ?_
      refine sk hk rfl rfl rfl fun a hk => ?_
      refine sv (.bool false) hk rfl rfl rfl fun a hk => ?_
      refine sa _ rfl hk rfl rfl rfl fun a hk => ?_
      show wpList _ _ _ [] _ _
      refine wpList_nil ?_
      obtain rfl := Option.some.inj H
      show R8 _ _
      rw [hR8]
      exact ⟨false, rfl, (hk.c 6 rfl hk.k), (hs.pick [] rfl)⟩
  · intro a w hR0
    rw [hR8] at hR0
    obtain ⟨u4, rfl, hk, hs⟩ := hR0
    have H := HL7
    try dsimp only at H
    refine hK2 _ _ ?_
    refine wp_ret ?_
    obtain rfl := Option.some.inj H
    exact fin hk _ [(.bool u4)] rfl ⟨rfl, trivial⟩ ⟨rfl, (hs.pick [] rfl).dnil⟩

noncomputable def impl_isKey.f (x0 : Int) : Option (Bool) :=
  ((impl_within.f x0 1 9999).bind fun y3 => (some y3))
set_option maxRecDepth 100000 in
set_option maxHeartbeats 0 in
theorem impl_isKey_t (w0 : World) (x0 : Int) (r : Bool) (H : impl_isKey.f x0 = some r) :
    Calls Try.prog 83 #[.int .i64 x0] w0 (Ret (fun v w => v = .bool r ∧ Sat [] w0 w [] [])) := by
  have hs : Sat [] w0 w0 [] [] := Sat.init w0 [] [] (by simp) (by simp) List.nodup_nil (by simp [blks])
  unfold impl_isKey.f at H
  refine enter Try.func83 rfl Try.ntmps83 rfl fun a hk => ?_
  apply wp_seq_k; intro K1 hK1
  apply wp_region_lit
  refine sa _ rfl hk rfl rfl rfl fun a hk => ?_
  show wpList _ _ _ [] _ _
  refine wpList_nil ?_
  refine hK1 _ _ ?_
  apply wp_seq_k; intro K2 hK2
  apply wp_region_lit
  refine sm _ rfl hk rfl rfl rfl fun a hk => ?_
  obtain ⟨y3, h4, H⟩ := bind_some H
  refine sc rfl en115 hk rfl rfl rfl (impl_within_t _ x0 1 9999 _ h4) ?_
  rintro _ w ⟨rfl, hG⟩ a hk
  have hs := hs.call0 hG
  refine sa _ rfl hk rfl rfl rfl fun a hk => ?_
  show wpList _ _ _ [] _ _
  refine wpList_nil ?_
  refine hK2 _ _ ?_
  refine wp_ret ?_
  obtain rfl := Option.some.inj H
  exact fin hk _ [(.bool y3)] rfl ⟨rfl, trivial⟩ ⟨rfl, (hs.pick [] rfl).dnil⟩

noncomputable def slices_IndexFunc_impl_Block_impl_Block.s0 (l0 : List S_Block) (q1 : S_Block → Option (Bool)) (u6 : Int) : Option ((Int) ⊕ Ex (Unit) (Int)) :=
  (bif (decide (u6 < (l0.length : Int))) then (if 0 ≤ u6 ∧ u6 < (l0.length : Int) then ((q1 (l0.getD u6.toNat z_Block)).bind fun y25 => (bif y25 then (some (.inr (.ret u6))) else (some (.inl (w64 (u6 + 1)))))) else none) else (some (.inr (.out ()))))
noncomputable def slices_IndexFunc_impl_Block_impl_Block.f (l0 : List S_Block) (q1 : S_Block → Option (Bool)) : Option (Int) :=
  ((loopO (fun s => slices_IndexFunc_impl_Block_impl_Block.s0 l0 q1 s) 0).bind fun o => match o with | .out _ => (some (-1)) | .ret r => (some r))
set_option maxRecDepth 100000 in
set_option maxHeartbeats 0 in
theorem slices_IndexFunc_impl_Block_impl_Block_t (w0 : World) (A0_ : Option Addr) (p0_ : Nat) (l0 : List S_Block) (k0_ : Chunk) (v0_ : View L_Block A0_ p0_ l0 k0_) (w0_ : Has w0 k0_) (f1_ : FuncId) (c1_ : List Value) (e1_ : Enters Try.prog f1_) (q1 : S_Block → Option (Bool)) (k1_ : Chunk) (t1_ : ∀ w, Has w k1_ → ∀ (z0 : S_Block) (r : Bool), q1 z0 = some r → Calls Try.prog f1_ (([.agg #[.int .i64 z0.Id, .int .i64 z0.Leaf, .int .i64 z0.Value]] : List Value) ++ c1_).toArray w (Ret (fun v w2 => v = .bool r ∧ Sat [] w w2 [] []))) (w1_ : Has w0 k1_) (r : Int) (H : slices_IndexFunc_impl_Block_impl_Block.f l0 q1 = some r) :
    Calls Try.prog 150 #[.slice A0_ l0.length p0_, .func (.func f1_) #[] c1_.toArray] w0 (Ret (fun v w => v = .int .i64 r ∧ Sat [] w0 w [] [])) := by
  have hs : Sat [] w0 w0 [(1, k0_), (2, k1_)] [] := Sat.init w0 [(1, k0_), (2, k1_)] [] (by simp only [List.mem_cons, List.not_mem_nil, or_false]; rintro x (rfl | rfl) <;> assumption) (by simp) List.nodup_nil (by simp [blks])
  unfold slices_IndexFunc_impl_Block_impl_Block.f at H
  refine enter Try.func150 rfl Try.ntmps150 rfl fun a hk => ?_
  apply wp_seq_k; intro K1 hK1
  apply wp_region_lit
  refine sa _ rfl hk rfl rfl rfl fun a hk => ?_
  show wpList _ _ _ [] _ _
  refine wpList_nil ?_
  refine hK1 _ _ ?_
  apply wp_seq_k; intro K2 hK2
  apply wp_seq_k; intro K3 hK3
  apply wp_region_lit
  refine sm _ rfl hk rfl rfl rfl fun a hk => ?_
  refine sle rfl hk rfl rfl rfl un26 fun a hk => ?_
  refine sm _ rfl hk rfl rfl rfl fun a hk => ?_
  show wpList _ _ _ [] _ _
  refine wpList_nil ?_
  refine hK3 _ _ ?_
  obtain ⟨o7, h8, HL9⟩ := bind_some H
  clear H
  obtain ⟨R10, hR10⟩ : ∃ R : Act → World → Prop, R = fun a w => o7 = .out () ∧ Kn [] 19 a ∧ Sat [] w0 w [(1, k0_), (2, k1_)] [] := ⟨_, rfl⟩
  refine wp_cutq R10 ?_ ?_
  · refine wp_block ?_
    obtain ⟨fu12, h8⟩ := loopO_some h8
    obtain ⟨I11, hI11⟩ : ∃ I : Nat → Act → World → Prop, I = fun fu a w => ∃ (u6 : Int), loopN (fun s => slices_IndexFunc_impl_Block_impl_Block.s0 l0 q1 s) fu u6 = some o7 ∧ Kn [(0, (.slice A0_ l0.length p0_)), (1, (.func (.func f1_) #[] c1_.toArray)), (7, (.int .i64 (l0.length : Int))), (8, (.int .i64 u6))] 19 a ∧ Sat [] w0 w [(1, k0_), (2, k1_)] [] := ⟨_, rfl⟩
    refine wp_loop_ghost I11 fu12 ?_ ?_
    · rw [hI11]
      exact ⟨0, h8, (hk.c 0 rfl (hk.c 1 rfl (hk.c 7 rfl (hk.c 8 rfl hk.k)))), (hs.pick [] rfl)⟩
    · clear h8 hk hs
      intro fu12 a w hI0
      rw [hI11] at hI0
      obtain ⟨u6, hi, hk, hs⟩ := hI0
      obtain ⟨x13, H, h14⟩ := loop_round hi
      try dsimp only at H
      unfold slices_IndexFunc_impl_Block_impl_Block.s0 at H
      apply wp_seq_k; intro K15 hK15
      apply wp_region_lit
      refine sv (.bool (decide (u6 < (l0.length : Int)))) hk rfl rfl rfl fun a hk => ?_
      show wpList _ _ _ [] _ _
      refine wpList_nil ?_
      refine hK15 _ _ ?_
      apply wp_seq_k; intro K16 hK16
      rcases cond_some H with ⟨c17, H⟩ | ⟨c17, H⟩
      · have hk := hk.lit 9 c17 rfl
        refine cnd_true hk rfl rfl ?_
        refine wp_skip ?_
        refine hK16 _ _ ?_
        apply wp_seq_k; intro K18 hK18
        refine wp_block ?_
        apply wp_seq_k; intro K19 hK19
        apply wp_region_lit
        refine sm _ rfl hk rfl rfl rfl fun a hk => ?_
        refine sa _ rfl hk rfl rfl rfl fun a hk => ?_
        show wpList _ _ _ [] _ _
        refine wpList_nil ?_
        refine hK19 _ _ ?_
        apply wp_seq_k; intro K20 hK20
        apply wp_region_lit
        refine sm _ rfl hk rfl rfl rfl fun a hk => ?_
        refine sm _ rfl hk rfl rfl rfl fun a hk => ?_
        refine sm _ rfl hk rfl rfl rfl fun a hk => ?_
        rcases ite_some H with ⟨c21, H⟩ | ⟨_, H⟩
        rotate_left
        · cases H
        obtain ⟨b22, q23, hAc21⟩ := (v0_).some_ u6 c21.1 c21.2
        refine si rfl hk rfl rfl rfl rfl un26 sz81 c21.1 c21.2 hAc21 fun a hk => ?_
        obtain ⟨_, rfl, e24⟩ := (v0_).at_ z_Block u6 c21.1 c21.2
        refine sln [.int .i64 ((l0.getD u6.toNat z_Block).Id), .int .i64 ((l0.getD u6.toNat z_Block).Leaf), .int .i64 ((l0.getD u6.toNat z_Block).Value)] rfl hk rfl rfl rfl ag81 sz81 (cells_at e24 (hs.hasD (k := 1) rfl)) fun a hk => ?_
        obtain ⟨y25, h26, H⟩ := bind_some H
        refine scv (vs := ([(.agg #[.int .i64 ((l0.getD u6.toNat z_Block).Id), .int .i64 ((l0.getD u6.toNat z_Block).Leaf), .int .i64 ((l0.getD u6.toNat z_Block).Value)])] : List Value) ++ c1_) rfl rfl e1_ hk rfl rfl rfl (t1_ _ (hs.hasD (k := 2) rfl) (l0.getD u6.toNat z_Block) _ h26) ?_
        rintro _ w ⟨rfl, hG⟩ a hk
        have hs := hs.call0 hG
        show wpList _ _ _ [] _ _
        refine wpList_nil ?_
        refine hK20 _ _ ?_
        rcases cond_some H with ⟨c27, H⟩ | ⟨c27, H⟩
        · have hk := hk.lit 16 c27 rfl
          refine cnd_true hk rfl rfl ?_
          apply wp_seq_k; intro K28 hK28
          apply wp_region_lit
          refine sm _ rfl hk rfl rfl rfl fun a hk => ?_
          refine sa _ rfl hk rfl rfl rfl fun a hk => ?_
          show wpList _ _ _ [] _ _
          refine wpList_nil ?_
          refine hK28 _ _ ?_
          refine wp_ret ?_
          obtain rfl := Option.some.inj H
          have ho7 := h14
          try dsimp only at ho7
          subst ho7
          have H := HL9
          try dsimp only at H
          obtain rfl := Option.some.inj H
          exact fin hk _ [(.int .i64 u6)] rfl ⟨rfl, trivial⟩ ⟨rfl, (hs.pick [] rfl).dnil⟩
        · have hk := hk.lit 16 c27 rfl
          refine cnd_false hk rfl rfl ?_
          refine wp_skip ?_
          refine hK18 _ _ ?_
          apply wp_region_lit
          refine sv (.int .i64 (w64 (u6 + 1))) hk rfl rfl rfl fun a hk => ?_
          refine sm _ rfl hk rfl rfl rfl fun a hk => ?_
          show wpList _ _ _ [] _ _
          refine wpList_nil ?_
          obtain rfl := Option.some.inj H
          obtain ⟨m29, hmm29, h14⟩ := h14
          show ∃ n', n' < _ ∧ I11 n' _ _
          refine ⟨m29, hmm29, ?_⟩
          rw [hI11]
          exact ⟨(w64 (u6 + 1)), h14, (hk.c 0 rfl (hk.c 1 rfl (hk.c 7 rfl (hk.c 8 rfl hk.k)))), (hs.pick [] rfl)⟩
      · have hk := hk.lit 9 c17 rfl
        refine cnd_false hk rfl rfl ?_
        refine wp_exit ?_
        obtain rfl := Option.some.inj H
        show R10 _ _
        rw [hR10]
        exact ⟨h14.symm, hk.k, (hs.pick [] rfl)⟩
  · intro a w hR0
    rw [hR10] at hR0
    obtain ⟨rfl, hk, hs⟩ := hR0
    have H := HL9
    try dsimp only at H
    refine hK2 _ _ ?_
    apply wp_seq_k; intro K30 hK30
    apply wp_region_lit
    refine sa _ rfl hk rfl rfl rfl fun a hk => ?_
    show wpList _ _ _ [] _ _
    refine wpList_nil ?_
    refine hK30 _ _ ?_
    refine wp_ret ?_
    obtain rfl := Option.some.inj H
    exact fin hk _ [(.int .i64 (-1))] rfl ⟨rfl, trivial⟩ ⟨rfl, (hs.pick [] rfl).dnil⟩

noncomputable def slices_ContainsFunc_impl_Block_impl_Block.f (l0 : List S_Block) (q1 : S_Block → Option (Bool)) : Option (Bool) :=
  ((slices_IndexFunc_impl_Block_impl_Block.f l0 q1).bind fun y3 => (some (decide (y3 ≥ 0))))
set_option maxRecDepth 100000 in
set_option maxHeartbeats 0 in
theorem slices_ContainsFunc_impl_Block_impl_Block_t (w0 : World) (A0_ : Option Addr) (p0_ : Nat) (l0 : List S_Block) (k0_ : Chunk) (v0_ : View L_Block A0_ p0_ l0 k0_) (w0_ : Has w0 k0_) (f1_ : FuncId) (c1_ : List Value) (e1_ : Enters Try.prog f1_) (q1 : S_Block → Option (Bool)) (k1_ : Chunk) (t1_ : ∀ w, Has w k1_ → ∀ (z0 : S_Block) (r : Bool), q1 z0 = some r → Calls Try.prog f1_ (([.agg #[.int .i64 z0.Id, .int .i64 z0.Leaf, .int .i64 z0.Value]] : List Value) ++ c1_).toArray w (Ret (fun v w2 => v = .bool r ∧ Sat [] w w2 [] []))) (w1_ : Has w0 k1_) (r : Bool) (H : slices_ContainsFunc_impl_Block_impl_Block.f l0 q1 = some r) :
    Calls Try.prog 103 #[.slice A0_ l0.length p0_, .func (.func f1_) #[] c1_.toArray] w0 (Ret (fun v w => v = .bool r ∧ Sat [] w0 w [] [])) := by
  have hs : Sat [] w0 w0 [(1, k0_), (2, k1_)] [] := Sat.init w0 [(1, k0_), (2, k1_)] [] (by simp only [List.mem_cons, List.not_mem_nil, or_false]; rintro x (rfl | rfl) <;> assumption) (by simp) List.nodup_nil (by simp [blks])
  unfold slices_ContainsFunc_impl_Block_impl_Block.f at H
  refine enter Try.func103 rfl Try.ntmps103 rfl fun a hk => ?_
  apply wp_seq_k; intro K1 hK1
  apply wp_region_lit
  refine sa _ rfl hk rfl rfl rfl fun a hk => ?_
  show wpList _ _ _ [] _ _
  refine wpList_nil ?_
  refine hK1 _ _ ?_
  apply wp_seq_k; intro K2 hK2
  apply wp_region_lit
  refine sm _ rfl hk rfl rfl rfl fun a hk => ?_
  refine sm _ rfl hk rfl rfl rfl fun a hk => ?_
  obtain ⟨y3, h4, H⟩ := bind_some H
  refine sc rfl en150 hk rfl rfl rfl (slices_IndexFunc_impl_Block_impl_Block_t _ A0_ p0_ l0 _ v0_ (hs.hasD (k := 1) rfl) f1_ c1_ e1_ q1 k1_ t1_ (hs.hasD (k := 2) rfl) _ h4) ?_
  rintro _ w ⟨rfl, hG⟩ a hk
  have hs := hs.call0 hG
  refine sv (.bool (decide (y3 ≥ 0))) hk rfl rfl rfl fun a hk => ?_
  refine sa _ rfl hk rfl rfl rfl fun a hk => ?_
  show wpList _ _ _ [] _ _
  refine wpList_nil ?_
  refine hK2 _ _ ?_
  refine wp_ret ?_
  obtain rfl := Option.some.inj H
  exact fin hk _ [(.bool (decide (y3 ≥ 0)))] rfl ⟨rfl, trivial⟩ ⟨rfl, (hs.pick [] rfl).dnil⟩

noncomputable def impl_areAll_impl_Block__c1.f (x0 : S_Block) (q1 : S_Block → Option (Bool)) : Option (Bool) :=
  ((q1 x0).bind fun y4 => (some (!y4)))
set_option maxRecDepth 100000 in
set_option maxHeartbeats 0 in
theorem impl_areAll_impl_Block__c1_t (w0 : World) (x0 : S_Block) (b1_ : Nat) (f1_ : FuncId) (c1_ : List Value) (e1_ : Enters Try.prog f1_) (q1 : S_Block → Option (Bool)) (k1_ : Chunk) (t1_ : ∀ w, Has w k1_ → ∀ (z0 : S_Block) (r : Bool), q1 z0 = some r → Calls Try.prog f1_ (([.agg #[.int .i64 z0.Id, .int .i64 z0.Leaf, .int .i64 z0.Value]] : List Value) ++ c1_).toArray w (Ret (fun v w2 => v = .bool r ∧ Sat [] w w2 [] []))) (w1_ : Has w0 k1_) (h1_ : Has w0 [(b1_, .cells #[.func (.func f1_) #[] c1_.toArray] 85 (0, 0))]) (r : Bool) (H : impl_areAll_impl_Block__c1.f x0 q1 = some r) :
    Calls Try.prog 104 #[.agg #[.int .i64 x0.Id, .int .i64 x0.Leaf, .int .i64 x0.Value], .pointer (some ⟨b1_, 0, none⟩)] w0 (Ret (fun v w => v = .bool r ∧ Sat [] w0 w [] [])) := by
  have hs : Sat [] w0 w0 [(2, k1_), (1, [(b1_, .cells #[.func (.func f1_) #[] c1_.toArray] 85 (0, 0))])] [] := Sat.init w0 [(2, k1_), (1, [(b1_, .cells #[.func (.func f1_) #[] c1_.toArray] 85 (0, 0))])] [] (by simp only [List.mem_cons, List.not_mem_nil, or_false]; rintro x (rfl | rfl) <;> assumption) (by simp) List.nodup_nil (by simp [blks])
  unfold impl_areAll_impl_Block__c1.f at H
  refine enter Try.func104 rfl Try.ntmps104 rfl fun a hk => ?_
  apply wp_seq_k; intro K1 hK1
  apply wp_region_lit
  refine sbx 3 hs rfl hk rfl rfl rfl rfl fun b2 w a hk hs => ?_
  refine sa _ rfl hk rfl rfl rfl fun a hk => ?_
  show wpList _ _ _ [] _ _
  refine wpList_nil ?_
  refine hK1 _ _ ?_
  apply wp_seq_k; intro K3 hK3
  apply wp_region_lit
  refine sl rfl hk rfl rfl rfl ag85 (box_cellD hs (k := 1) rfl rfl) fun a hk => ?_
  refine sln [.int .i64 x0.Id, .int .i64 x0.Leaf, .int .i64 x0.Value] rfl hk rfl rfl rfl ag81 sz81 (box_cells hs (k := 3) rfl) fun a hk => ?_
  obtain ⟨y4, h5, H⟩ := bind_some H
  refine scv (vs := ([(.agg #[.int .i64 x0.Id, .int .i64 x0.Leaf, .int .i64 x0.Value])] : List Value) ++ c1_) rfl rfl e1_ hk rfl rfl rfl (t1_ _ (hs.hasD (k := 2) rfl) x0 _ h5) ?_
  rintro _ w ⟨rfl, hG⟩ a hk
  have hs := hs.call0 hG
  refine sv (.bool (!y4)) hk rfl rfl rfl fun a hk => ?_
  refine sa _ rfl hk rfl rfl rfl fun a hk => ?_
  show wpList _ _ _ [] _ _
  refine wpList_nil ?_
  refine hK3 _ _ ?_
  refine wp_ret ?_
  obtain rfl := Option.some.inj H
  exact fin hk _ [(.bool (!y4))] rfl ⟨rfl, trivial⟩ ⟨rfl, (hs.pick [] rfl).dnil⟩

noncomputable def impl_areAll_impl_Block.f (l0 : List S_Block) (q1 : S_Block → Option (Bool)) : Option (Bool) :=
  ((slices_ContainsFunc_impl_Block_impl_Block.f l0 (fun z0 => impl_areAll_impl_Block__c1.f z0 q1)).bind fun y4 => (some (!y4)))
set_option maxRecDepth 100000 in
set_option maxHeartbeats 0 in
theorem impl_areAll_impl_Block_t (w0 : World) (A0_ : Option Addr) (p0_ : Nat) (l0 : List S_Block) (k0_ : Chunk) (v0_ : View L_Block A0_ p0_ l0 k0_) (w0_ : Has w0 k0_) (f1_ : FuncId) (c1_ : List Value) (e1_ : Enters Try.prog f1_) (q1 : S_Block → Option (Bool)) (k1_ : Chunk) (t1_ : ∀ w, Has w k1_ → ∀ (z0 : S_Block) (r : Bool), q1 z0 = some r → Calls Try.prog f1_ (([.agg #[.int .i64 z0.Id, .int .i64 z0.Leaf, .int .i64 z0.Value]] : List Value) ++ c1_).toArray w (Ret (fun v w2 => v = .bool r ∧ Sat [] w w2 [] []))) (w1_ : Has w0 k1_) (r : Bool) (H : impl_areAll_impl_Block.f l0 q1 = some r) :
    Calls Try.prog 56 #[.slice A0_ l0.length p0_, .func (.func f1_) #[] c1_.toArray] w0 (Ret (fun v w => v = .bool r ∧ Sat [] w0 w [] [])) := by
  have hs : Sat [] w0 w0 [(1, k0_), (2, k1_)] [] := Sat.init w0 [(1, k0_), (2, k1_)] [] (by simp only [List.mem_cons, List.not_mem_nil, or_false]; rintro x (rfl | rfl) <;> assumption) (by simp) List.nodup_nil (by simp [blks])
  unfold impl_areAll_impl_Block.f at H
  refine enter Try.func56 rfl Try.ntmps56 rfl fun a hk => ?_
  apply wp_seq_k; intro K1 hK1
  apply wp_region_lit
  refine sbx 3 hs rfl hk rfl rfl rfl rfl fun b2 w a hk hs => ?_
  refine sa _ rfl hk rfl rfl rfl fun a hk => ?_
  show wpList _ _ _ [] _ _
  refine wpList_nil ?_
  refine hK1 _ _ ?_
  apply wp_seq_k; intro K3 hK3
  apply wp_region_lit
  refine sm _ rfl hk rfl rfl rfl fun a hk => ?_
  refine smf (cs := [.pointer (some ⟨b2, 0, none⟩)]) rfl hk rfl rfl rfl fun a hk => ?_
  obtain ⟨y4, h5, H⟩ := bind_some H
  refine sc rfl en103 hk rfl rfl rfl (slices_ContainsFunc_impl_Block_impl_Block_t _ A0_ p0_ l0 _ v0_ (hs.hasD (k := 1) rfl) 104 [.pointer (some ⟨b2, 0, none⟩)] en104 (fun z0 => impl_areAll_impl_Block__c1.f z0 q1) ([(b2, .cells #[.func (.func f1_) #[] c1_.toArray] 85 (0, 0))] ++ k1_) (fun w hz z0 r h => impl_areAll_impl_Block__c1_t w z0 _ f1_ c1_ e1_ q1 k1_ t1_ (Has.right hz) (Has.left hz) r h) (Has.app (hs.hasG (k := 3) rfl) (hs.hasD (k := 2) rfl)) _ h5) ?_
  rintro _ w ⟨rfl, hG⟩ a hk
  have hs := hs.call0 hG
  refine sv (.bool (!y4)) hk rfl rfl rfl fun a hk => ?_
  refine sa _ rfl hk rfl rfl rfl fun a hk => ?_
  show wpList _ _ _ [] _ _
  refine wpList_nil ?_
  refine hK3 _ _ ?_
  refine wp_ret ?_
  obtain rfl := Option.some.inj H
  exact fin hk _ [(.bool (!y4))] rfl ⟨rfl, trivial⟩ ⟨rfl, (hs.pick [] rfl).dnil⟩

noncomputable def impl_isId.f (x0 : Int) : Option (Bool) :=
  ((impl_within.f x0 0 11).bind fun y3 => (some y3))
set_option maxRecDepth 100000 in
set_option maxHeartbeats 0 in
theorem impl_isId_t (w0 : World) (x0 : Int) (r : Bool) (H : impl_isId.f x0 = some r) :
    Calls Try.prog 105 #[.int .i64 x0] w0 (Ret (fun v w => v = .bool r ∧ Sat [] w0 w [] [])) := by
  have hs : Sat [] w0 w0 [] [] := Sat.init w0 [] [] (by simp) (by simp) List.nodup_nil (by simp [blks])
  unfold impl_isId.f at H
  refine enter Try.func105 rfl Try.ntmps105 rfl fun a hk => ?_
  apply wp_seq_k; intro K1 hK1
  apply wp_region_lit
  refine sa _ rfl hk rfl rfl rfl fun a hk => ?_
  show wpList _ _ _ [] _ _
  refine wpList_nil ?_
  refine hK1 _ _ ?_
  apply wp_seq_k; intro K2 hK2
  apply wp_region_lit
  refine sm _ rfl hk rfl rfl rfl fun a hk => ?_
  obtain ⟨y3, h4, H⟩ := bind_some H
  refine sc rfl en115 hk rfl rfl rfl (impl_within_t _ x0 0 11 _ h4) ?_
  rintro _ w ⟨rfl, hG⟩ a hk
  have hs := hs.call0 hG
  refine sa _ rfl hk rfl rfl rfl fun a hk => ?_
  show wpList _ _ _ [] _ _
  refine wpList_nil ?_
  refine hK2 _ _ ?_
  refine wp_ret ?_
  obtain rfl := Option.some.inj H
  exact fin hk _ [(.bool y3)] rfl ⟨rfl, trivial⟩ ⟨rfl, (hs.pick [] rfl).dnil⟩

noncomputable def impl_isLeaf.f (x0 : Int) : Option (Bool) :=
  ((impl_within.f x0 0 7).bind fun y3 => (some y3))
set_option maxRecDepth 100000 in
set_option maxHeartbeats 0 in
theorem impl_isLeaf_t (w0 : World) (x0 : Int) (r : Bool) (H : impl_isLeaf.f x0 = some r) :
    Calls Try.prog 106 #[.int .i64 x0] w0 (Ret (fun v w => v = .bool r ∧ Sat [] w0 w [] [])) := by
  have hs : Sat [] w0 w0 [] [] := Sat.init w0 [] [] (by simp) (by simp) List.nodup_nil (by simp [blks])
  unfold impl_isLeaf.f at H
  refine enter Try.func106 rfl Try.ntmps106 rfl fun a hk => ?_
  apply wp_seq_k; intro K1 hK1
  apply wp_region_lit
  refine sa _ rfl hk rfl rfl rfl fun a hk => ?_
  show wpList _ _ _ [] _ _
  refine wpList_nil ?_
  refine hK1 _ _ ?_
  apply wp_seq_k; intro K2 hK2
  apply wp_region_lit
  refine sm _ rfl hk rfl rfl rfl fun a hk => ?_
  obtain ⟨y3, h4, H⟩ := bind_some H
  refine sc rfl en115 hk rfl rfl rfl (impl_within_t _ x0 0 7 _ h4) ?_
  rintro _ w ⟨rfl, hG⟩ a hk
  have hs := hs.call0 hG
  refine sa _ rfl hk rfl rfl rfl fun a hk => ?_
  show wpList _ _ _ [] _ _
  refine wpList_nil ?_
  refine hK2 _ _ ?_
  refine wp_ret ?_
  obtain rfl := Option.some.inj H
  exact fin hk _ [(.bool y3)] rfl ⟨rfl, trivial⟩ ⟨rfl, (hs.pick [] rfl).dnil⟩

noncomputable def impl_isValue.f (x0 : Int) : Option (Bool) :=
  ((impl_within.f x0 0 999999).bind fun y3 => (some y3))
set_option maxRecDepth 100000 in
set_option maxHeartbeats 0 in
theorem impl_isValue_t (w0 : World) (x0 : Int) (r : Bool) (H : impl_isValue.f x0 = some r) :
    Calls Try.prog 107 #[.int .i64 x0] w0 (Ret (fun v w => v = .bool r ∧ Sat [] w0 w [] [])) := by
  have hs : Sat [] w0 w0 [] [] := Sat.init w0 [] [] (by simp) (by simp) List.nodup_nil (by simp [blks])
  unfold impl_isValue.f at H
  refine enter Try.func107 rfl Try.ntmps107 rfl fun a hk => ?_
  apply wp_seq_k; intro K1 hK1
  apply wp_region_lit
  refine sa _ rfl hk rfl rfl rfl fun a hk => ?_
  show wpList _ _ _ [] _ _
  refine wpList_nil ?_
  refine hK1 _ _ ?_
  apply wp_seq_k; intro K2 hK2
  apply wp_region_lit
  refine sm _ rfl hk rfl rfl rfl fun a hk => ?_
  obtain ⟨y3, h4, H⟩ := bind_some H
  refine sc rfl en115 hk rfl rfl rfl (impl_within_t _ x0 0 999999 _ h4) ?_
  rintro _ w ⟨rfl, hG⟩ a hk
  have hs := hs.call0 hG
  refine sa _ rfl hk rfl rfl rfl fun a hk => ?_
  show wpList _ _ _ [] _ _
  refine wpList_nil ?_
  refine hK2 _ _ ?_
  refine wp_ret ?_
  obtain rfl := Option.some.inj H
  exact fin hk _ [(.bool y3)] rfl ⟨rfl, trivial⟩ ⟨rfl, (hs.pick [] rfl).dnil⟩

noncomputable def impl_isBlock.f (x0 : S_Block) : Option (Bool) :=
  ((((impl_isId.f x0.Id).bind fun y10 => (bif y10 then ((impl_isLeaf.f x0.Leaf).bind fun y13 => (bif y13 then ((impl_isValue.f x0.Value).bind fun y16 => (some y16)) else (some false))) else (some false))) : Option (Bool)).bind fun u5 => (some u5))
set_option maxRecDepth 100000 in
set_option maxHeartbeats 0 in
theorem impl_isBlock_t (w0 : World) (x0 : S_Block) (r : Bool) (H : impl_isBlock.f x0 = some r) :
    Calls Try.prog 57 #[.agg #[.int .i64 x0.Id, .int .i64 x0.Leaf, .int .i64 x0.Value]] w0 (Ret (fun v w => v = .bool r ∧ Sat [] w0 w [] [])) := by
  have hs : Sat [] w0 w0 [] [] := Sat.init w0 [] [] (by simp) (by simp) List.nodup_nil (by simp [blks])
  unfold impl_isBlock.f at H
  refine enter Try.func57 rfl Try.ntmps57 rfl fun a hk => ?_
  apply wp_seq_k; intro K1 hK1
  apply wp_region_lit
  refine sbx 1 hs rfl hk rfl rfl rfl rfl fun b2 w a hk hs => ?_
  refine sa _ rfl hk rfl rfl rfl fun a hk => ?_
  show wpList _ _ _ [] _ _
  refine wpList_nil ?_
  refine hK1 _ _ ?_
  apply wp_seq_k; intro K3 hK3
  obtain ⟨o6, h7, HL8⟩ := bind_some H
  clear H
  obtain ⟨R9, hR9⟩ : ∃ R : Act → World → Prop, R = fun a w => ∃ (u5 : Bool), u5 = o6 ∧ Kn [(2, (.bool u5))] 16 a ∧ Sat [] w0 w [] [] := ⟨_, rfl⟩
  refine wp_cutq R9 ?_ ?_
  · have H := h7
    apply wp_region_lit
    refine sf ⟨b2, 0, none⟩ rfl hk rfl rfl rfl fd81_0 rfl fun a hk => ?_
    refine sl rfl hk rfl rfl rfl ag3 (box_cell hs (k := 1) rfl rfl) fun a hk => ?_
    obtain ⟨y10, h11, H⟩ := bind_some H
    refine sc rfl en105 hk rfl rfl rfl (impl_isId_t _ x0.Id _ h11) ?_
    rintro _ w ⟨rfl, hG⟩ a hk
    have hs := hs.call0 hG
    refine sm _ rfl hk rfl rfl rfl fun a hk => ?_
    rcases cond_some H with ⟨c12, H⟩ | ⟨c12, H⟩
    · have hk := hk.lit 6 c12 rfl
      refine sf ⟨b2, 1, none⟩ rfl hk rfl rfl rfl fd81_1 rfl fun a hk => ?_
      refine sl rfl hk rfl rfl rfl ag3 (box_cell hs (k := 1) rfl rfl) fun a hk => ?_
      obtain ⟨y13, h14, H⟩ := bind_some H
      refine sc rfl en106 hk rfl rfl rfl (impl_isLeaf_t _ x0.Leaf _ h14) ?_
      rintro _ w ⟨rfl, hG⟩ a hk
      have hs := hs.call0 hG
      refine sv (.bool y13) hk rfl rfl rfl fun a hk => ?_
      refine sm _ rfl hk rfl rfl rfl fun a hk => ?_
      rcases cond_some H with ⟨c15, H⟩ | ⟨c15, H⟩
      · have hk := hk.lit 11 c15 rfl
        refine sf ⟨b2, 2, none⟩ rfl hk rfl rfl rfl fd81_2 rfl fun a hk => ?_
        refine sl rfl hk rfl rfl rfl ag3 (box_cell hs (k := 1) rfl rfl) fun a hk => ?_
        obtain ⟨y16, h17, H⟩ := bind_some H
        refine sc rfl en107 hk rfl rfl rfl (impl_isValue_t _ x0.Value _ h17) ?_
        rintro _ w ⟨rfl, hG⟩ a hk
        have hs := hs.call0 hG
        refine sv (.bool y16) hk rfl rfl rfl fun a hk => ?_
        refine sa _ rfl hk rfl rfl rfl fun a hk => ?_
        show wpList _ _ _ [] _ _
        refine wpList_nil ?_
        obtain rfl := Option.some.inj H
        show R9 _ _
        rw [hR9]
        exact ⟨y16, rfl, (hk.c 2 rfl hk.k), (hs.pick [] rfl)⟩
      · have hk := hk.lit 11 c15 rfl
        refine sk hk rfl rfl rfl fun a hk => ?_
        refine sk hk rfl rfl rfl fun a hk => ?_
        refine sk hk rfl rfl rfl fun a hk => ?_
        refine sv (.bool false) hk rfl rfl rfl fun a hk => ?_
        refine sa _ rfl hk rfl rfl rfl fun a hk => ?_
        show wpList _ _ _ [] _ _
        refine wpList_nil ?_
        obtain rfl := Option.some.inj H
        show R9 _ _
        rw [hR9]
        exact ⟨false, rfl, (hk.c 2 rfl hk.k), (hs.pick [] rfl)⟩
    · have hk := hk.lit 6 c12 rfl
      refine sk hk rfl rfl rfl fun a hk => ?_
      refine sk hk rfl rfl rfl fun a hk => ?_
      refine sk hk rfl rfl rfl fun a hk => ?_
      refine sv (.bool false) hk rfl rfl rfl fun a hk => ?_
      refine sm _ rfl hk rfl rfl rfl fun a hk => ?_
      refine sk hk rfl rfl rfl fun a hk => ?_
      refine sk hk rfl rfl rfl fun a hk => ?_
      refine sk hk rfl rfl rfl fun a hk => ?_
      refine sv (.bool false) hk rfl rfl rfl fun a hk => ?_
      refine sa _ rfl hk rfl rfl rfl fun a hk => ?_
      show wpList _ _ _ [] _ _
      refine wpList_nil ?_
      obtain rfl := Option.some.inj H
      show R9 _ _
      rw [hR9]
      exact ⟨false, rfl, (hk.c 2 rfl hk.k), (hs.pick [] rfl)⟩
  · intro a w hR0
    rw [hR9] at hR0
    obtain ⟨u5, rfl, hk, hs⟩ := hR0
    have H := HL8
    try dsimp only at H
    refine hK3 _ _ ?_
    refine wp_ret ?_
    obtain rfl := Option.some.inj H
    exact fin hk _ [(.bool u5)] rfl ⟨rfl, trivial⟩ ⟨rfl, (hs.pick [] rfl).dnil⟩

noncomputable def slices_IndexFunc_int_int.s0 (l0 : List Int) (q1 : Int → Option (Bool)) (u6 : Int) : Option ((Int) ⊕ Ex (Unit) (Int)) :=
  (bif (decide (u6 < (l0.length : Int))) then (if 0 ≤ u6 ∧ u6 < (l0.length : Int) then ((q1 (l0.getD u6.toNat 0)).bind fun y25 => (bif y25 then (some (.inr (.ret u6))) else (some (.inl (w64 (u6 + 1)))))) else none) else (some (.inr (.out ()))))
noncomputable def slices_IndexFunc_int_int.f (l0 : List Int) (q1 : Int → Option (Bool)) : Option (Int) :=
  ((loopO (fun s => slices_IndexFunc_int_int.s0 l0 q1 s) 0).bind fun o => match o with | .out _ => (some (-1)) | .ret r => (some r))
set_option maxRecDepth 100000 in
set_option maxHeartbeats 0 in
theorem slices_IndexFunc_int_int_t (w0 : World) (A0_ : Option Addr) (p0_ : Nat) (l0 : List Int) (k0_ : Chunk) (v0_ : View (Lay.int .i64) A0_ p0_ l0 k0_) (w0_ : Has w0 k0_) (f1_ : FuncId) (c1_ : List Value) (e1_ : Enters Try.prog f1_) (q1 : Int → Option (Bool)) (k1_ : Chunk) (t1_ : ∀ w, Has w k1_ → ∀ (z0 : Int) (r : Bool), q1 z0 = some r → Calls Try.prog f1_ (([.int .i64 z0] : List Value) ++ c1_).toArray w (Ret (fun v w2 => v = .bool r ∧ Sat [] w w2 [] []))) (w1_ : Has w0 k1_) (r : Int) (H : slices_IndexFunc_int_int.f l0 q1 = some r) :
    Calls Try.prog 180 #[.slice A0_ l0.length p0_, .func (.func f1_) #[] c1_.toArray] w0 (Ret (fun v w => v = .int .i64 r ∧ Sat [] w0 w [] [])) := by
  have hs : Sat [] w0 w0 [(1, k0_), (2, k1_)] [] := Sat.init w0 [(1, k0_), (2, k1_)] [] (by simp only [List.mem_cons, List.not_mem_nil, or_false]; rintro x (rfl | rfl) <;> assumption) (by simp) List.nodup_nil (by simp [blks])
  unfold slices_IndexFunc_int_int.f at H
  refine enter Try.func180 rfl Try.ntmps180 rfl fun a hk => ?_
  apply wp_seq_k; intro K1 hK1
  apply wp_region_lit
  refine sa _ rfl hk rfl rfl rfl fun a hk => ?_
  show wpList _ _ _ [] _ _
  refine wpList_nil ?_
  refine hK1 _ _ ?_
  apply wp_seq_k; intro K2 hK2
  apply wp_seq_k; intro K3 hK3
  apply wp_region_lit
  refine sm _ rfl hk rfl rfl rfl fun a hk => ?_
  refine sle rfl hk rfl rfl rfl un31 fun a hk => ?_
  refine sm _ rfl hk rfl rfl rfl fun a hk => ?_
  show wpList _ _ _ [] _ _
  refine wpList_nil ?_
  refine hK3 _ _ ?_
  obtain ⟨o7, h8, HL9⟩ := bind_some H
  clear H
  obtain ⟨R10, hR10⟩ : ∃ R : Act → World → Prop, R = fun a w => o7 = .out () ∧ Kn [] 19 a ∧ Sat [] w0 w [(1, k0_), (2, k1_)] [] := ⟨_, rfl⟩
  refine wp_cutq R10 ?_ ?_
  · refine wp_block ?_
    obtain ⟨fu12, h8⟩ := loopO_some h8
    obtain ⟨I11, hI11⟩ : ∃ I : Nat → Act → World → Prop, I = fun fu a w => ∃ (u6 : Int), loopN (fun s => slices_IndexFunc_int_int.s0 l0 q1 s) fu u6 = some o7 ∧ Kn [(0, (.slice A0_ l0.length p0_)), (1, (.func (.func f1_) #[] c1_.toArray)), (7, (.int .i64 (l0.length : Int))), (8, (.int .i64 u6))] 19 a ∧ Sat [] w0 w [(1, k0_), (2, k1_)] [] := ⟨_, rfl⟩
    refine wp_loop_ghost I11 fu12 ?_ ?_
    · rw [hI11]
      exact ⟨0, h8, (hk.c 0 rfl (hk.c 1 rfl (hk.c 7 rfl (hk.c 8 rfl hk.k)))), (hs.pick [] rfl)⟩
    · clear h8 hk hs
      intro fu12 a w hI0
      rw [hI11] at hI0
      obtain ⟨u6, hi, hk, hs⟩ := hI0
      obtain ⟨x13, H, h14⟩ := loop_round hi
      try dsimp only at H
      unfold slices_IndexFunc_int_int.s0 at H
      apply wp_seq_k; intro K15 hK15
      apply wp_region_lit
      refine sv (.bool (decide (u6 < (l0.length : Int)))) hk rfl rfl rfl fun a hk => ?_
      show wpList _ _ _ [] _ _
      refine wpList_nil ?_
      refine hK15 _ _ ?_
      apply wp_seq_k; intro K16 hK16
      rcases cond_some H with ⟨c17, H⟩ | ⟨c17, H⟩
      · have hk := hk.lit 9 c17 rfl
        refine cnd_true hk rfl rfl ?_
        refine wp_skip ?_
        refine hK16 _ _ ?_
        apply wp_seq_k; intro K18 hK18
        refine wp_block ?_
        apply wp_seq_k; intro K19 hK19
        apply wp_region_lit
        refine sm _ rfl hk rfl rfl rfl fun a hk => ?_
        refine sa _ rfl hk rfl rfl rfl fun a hk => ?_
        show wpList _ _ _ [] _ _
        refine wpList_nil ?_
        refine hK19 _ _ ?_
        apply wp_seq_k; intro K20 hK20
        apply wp_region_lit
        refine sm _ rfl hk rfl rfl rfl fun a hk => ?_
        refine sm _ rfl hk rfl rfl rfl fun a hk => ?_
        refine sm _ rfl hk rfl rfl rfl fun a hk => ?_
        rcases ite_some H with ⟨c21, H⟩ | ⟨_, H⟩
        rotate_left
        · cases H
        obtain ⟨b22, q23, hAc21⟩ := (v0_).some_ u6 c21.1 c21.2
        refine si rfl hk rfl rfl rfl rfl un31 sz3 c21.1 c21.2 hAc21 fun a hk => ?_
        obtain ⟨_, rfl, e24⟩ := (v0_).at_ 0 u6 c21.1 c21.2
        refine sl (v := (.int .i64 (l0.getD u6.toNat 0))) rfl hk rfl rfl rfl ag3 ((e24 0 _ rfl).cell (hs.hasD (k := 1) rfl)) fun a hk => ?_
        obtain ⟨y25, h26, H⟩ := bind_some H
        refine scv (vs := ([(.int .i64 (l0.getD u6.toNat 0))] : List Value) ++ c1_) rfl rfl e1_ hk rfl rfl rfl (t1_ _ (hs.hasD (k := 2) rfl) (l0.getD u6.toNat 0) _ h26) ?_
        rintro _ w ⟨rfl, hG⟩ a hk
        have hs := hs.call0 hG
        show wpList _ _ _ [] _ _
        refine wpList_nil ?_
        refine hK20 _ _ ?_
        rcases cond_some H with ⟨c27, H⟩ | ⟨c27, H⟩
        · have hk := hk.lit 16 c27 rfl
          refine cnd_true hk rfl rfl ?_
          apply wp_seq_k; intro K28 hK28
          apply wp_region_lit
          refine sm _ rfl hk rfl rfl rfl fun a hk => ?_
          refine sa _ rfl hk rfl rfl rfl fun a hk => ?_
          show wpList _ _ _ [] _ _
          refine wpList_nil ?_
          refine hK28 _ _ ?_
          refine wp_ret ?_
          obtain rfl := Option.some.inj H
          have ho7 := h14
          try dsimp only at ho7
          subst ho7
          have H := HL9
          try dsimp only at H
          obtain rfl := Option.some.inj H
          exact fin hk _ [(.int .i64 u6)] rfl ⟨rfl, trivial⟩ ⟨rfl, (hs.pick [] rfl).dnil⟩
        · have hk := hk.lit 16 c27 rfl
          refine cnd_false hk rfl rfl ?_
          refine wp_skip ?_
          refine hK18 _ _ ?_
          apply wp_region_lit
          refine sv (.int .i64 (w64 (u6 + 1))) hk rfl rfl rfl fun a hk => ?_
          refine sm _ rfl hk rfl rfl rfl fun a hk => ?_
          show wpList _ _ _ [] _ _
          refine wpList_nil ?_
          obtain rfl := Option.some.inj H
          obtain ⟨m29, hmm29, h14⟩ := h14
          show ∃ n', n' < _ ∧ I11 n' _ _
          refine ⟨m29, hmm29, ?_⟩
          rw [hI11]
          exact ⟨(w64 (u6 + 1)), h14, (hk.c 0 rfl (hk.c 1 rfl (hk.c 7 rfl (hk.c 8 rfl hk.k)))), (hs.pick [] rfl)⟩
      · have hk := hk.lit 9 c17 rfl
        refine cnd_false hk rfl rfl ?_
        refine wp_exit ?_
        obtain rfl := Option.some.inj H
        show R10 _ _
        rw [hR10]
        exact ⟨h14.symm, hk.k, (hs.pick [] rfl)⟩
  · intro a w hR0
    rw [hR10] at hR0
    obtain ⟨rfl, hk, hs⟩ := hR0
    have H := HL9
    try dsimp only at H
    refine hK2 _ _ ?_
    apply wp_seq_k; intro K30 hK30
    apply wp_region_lit
    refine sa _ rfl hk rfl rfl rfl fun a hk => ?_
    show wpList _ _ _ [] _ _
    refine wpList_nil ?_
    refine hK30 _ _ ?_
    refine wp_ret ?_
    obtain rfl := Option.some.inj H
    exact fin hk _ [(.int .i64 (-1))] rfl ⟨rfl, trivial⟩ ⟨rfl, (hs.pick [] rfl).dnil⟩

noncomputable def slices_ContainsFunc_int_int.f (l0 : List Int) (q1 : Int → Option (Bool)) : Option (Bool) :=
  ((slices_IndexFunc_int_int.f l0 q1).bind fun y3 => (some (decide (y3 ≥ 0))))
set_option maxRecDepth 100000 in
set_option maxHeartbeats 0 in
theorem slices_ContainsFunc_int_int_t (w0 : World) (A0_ : Option Addr) (p0_ : Nat) (l0 : List Int) (k0_ : Chunk) (v0_ : View (Lay.int .i64) A0_ p0_ l0 k0_) (w0_ : Has w0 k0_) (f1_ : FuncId) (c1_ : List Value) (e1_ : Enters Try.prog f1_) (q1 : Int → Option (Bool)) (k1_ : Chunk) (t1_ : ∀ w, Has w k1_ → ∀ (z0 : Int) (r : Bool), q1 z0 = some r → Calls Try.prog f1_ (([.int .i64 z0] : List Value) ++ c1_).toArray w (Ret (fun v w2 => v = .bool r ∧ Sat [] w w2 [] []))) (w1_ : Has w0 k1_) (r : Bool) (H : slices_ContainsFunc_int_int.f l0 q1 = some r) :
    Calls Try.prog 154 #[.slice A0_ l0.length p0_, .func (.func f1_) #[] c1_.toArray] w0 (Ret (fun v w => v = .bool r ∧ Sat [] w0 w [] [])) := by
  have hs : Sat [] w0 w0 [(1, k0_), (2, k1_)] [] := Sat.init w0 [(1, k0_), (2, k1_)] [] (by simp only [List.mem_cons, List.not_mem_nil, or_false]; rintro x (rfl | rfl) <;> assumption) (by simp) List.nodup_nil (by simp [blks])
  unfold slices_ContainsFunc_int_int.f at H
  refine enter Try.func154 rfl Try.ntmps154 rfl fun a hk => ?_
  apply wp_seq_k; intro K1 hK1
  apply wp_region_lit
  refine sa _ rfl hk rfl rfl rfl fun a hk => ?_
  show wpList _ _ _ [] _ _
  refine wpList_nil ?_
  refine hK1 _ _ ?_
  apply wp_seq_k; intro K2 hK2
  apply wp_region_lit
  refine sm _ rfl hk rfl rfl rfl fun a hk => ?_
  refine sm _ rfl hk rfl rfl rfl fun a hk => ?_
  obtain ⟨y3, h4, H⟩ := bind_some H
  refine sc rfl en180 hk rfl rfl rfl (slices_IndexFunc_int_int_t _ A0_ p0_ l0 _ v0_ (hs.hasD (k := 1) rfl) f1_ c1_ e1_ q1 k1_ t1_ (hs.hasD (k := 2) rfl) _ h4) ?_
  rintro _ w ⟨rfl, hG⟩ a hk
  have hs := hs.call0 hG
  refine sv (.bool (decide (y3 ≥ 0))) hk rfl rfl rfl fun a hk => ?_
  refine sa _ rfl hk rfl rfl rfl fun a hk => ?_
  show wpList _ _ _ [] _ _
  refine wpList_nil ?_
  refine hK2 _ _ ?_
  refine wp_ret ?_
  obtain rfl := Option.some.inj H
  exact fin hk _ [(.bool (decide (y3 ≥ 0)))] rfl ⟨rfl, trivial⟩ ⟨rfl, (hs.pick [] rfl).dnil⟩

noncomputable def impl_areAll_int__c1.f (x0 : Int) (q1 : Int → Option (Bool)) : Option (Bool) :=
  ((q1 x0).bind fun y3 => (some (!y3)))
set_option maxRecDepth 100000 in
set_option maxHeartbeats 0 in
theorem impl_areAll_int__c1_t (w0 : World) (x0 : Int) (b1_ : Nat) (f1_ : FuncId) (c1_ : List Value) (e1_ : Enters Try.prog f1_) (q1 : Int → Option (Bool)) (k1_ : Chunk) (t1_ : ∀ w, Has w k1_ → ∀ (z0 : Int) (r : Bool), q1 z0 = some r → Calls Try.prog f1_ (([.int .i64 z0] : List Value) ++ c1_).toArray w (Ret (fun v w2 => v = .bool r ∧ Sat [] w w2 [] []))) (w1_ : Has w0 k1_) (h1_ : Has w0 [(b1_, .cells #[.func (.func f1_) #[] c1_.toArray] 113 (0, 0))]) (r : Bool) (H : impl_areAll_int__c1.f x0 q1 = some r) :
    Calls Try.prog 155 #[.int .i64 x0, .pointer (some ⟨b1_, 0, none⟩)] w0 (Ret (fun v w => v = .bool r ∧ Sat [] w0 w [] [])) := by
  have hs : Sat [] w0 w0 [(2, k1_), (1, [(b1_, .cells #[.func (.func f1_) #[] c1_.toArray] 113 (0, 0))])] [] := Sat.init w0 [(2, k1_), (1, [(b1_, .cells #[.func (.func f1_) #[] c1_.toArray] 113 (0, 0))])] [] (by simp only [List.mem_cons, List.not_mem_nil, or_false]; rintro x (rfl | rfl) <;> assumption) (by simp) List.nodup_nil (by simp [blks])
  unfold impl_areAll_int__c1.f at H
  refine enter Try.func155 rfl Try.ntmps155 rfl fun a hk => ?_
  apply wp_seq_k; intro K1 hK1
  apply wp_region_lit
  refine sa _ rfl hk rfl rfl rfl fun a hk => ?_
  show wpList _ _ _ [] _ _
  refine wpList_nil ?_
  refine hK1 _ _ ?_
  apply wp_seq_k; intro K2 hK2
  apply wp_region_lit
  refine sl rfl hk rfl rfl rfl ag113 (box_cellD hs (k := 1) rfl rfl) fun a hk => ?_
  refine sm _ rfl hk rfl rfl rfl fun a hk => ?_
  obtain ⟨y3, h4, H⟩ := bind_some H
  refine scv (vs := ([(.int .i64 x0)] : List Value) ++ c1_) rfl rfl e1_ hk rfl rfl rfl (t1_ _ (hs.hasD (k := 2) rfl) x0 _ h4) ?_
  rintro _ w ⟨rfl, hG⟩ a hk
  have hs := hs.call0 hG
  refine sv (.bool (!y3)) hk rfl rfl rfl fun a hk => ?_
  refine sa _ rfl hk rfl rfl rfl fun a hk => ?_
  show wpList _ _ _ [] _ _
  refine wpList_nil ?_
  refine hK2 _ _ ?_
  refine wp_ret ?_
  obtain rfl := Option.some.inj H
  exact fin hk _ [(.bool (!y3))] rfl ⟨rfl, trivial⟩ ⟨rfl, (hs.pick [] rfl).dnil⟩

noncomputable def impl_areAll_int.f (l0 : List Int) (q1 : Int → Option (Bool)) : Option (Bool) :=
  ((slices_ContainsFunc_int_int.f l0 (fun z0 => impl_areAll_int__c1.f z0 q1)).bind fun y4 => (some (!y4)))
set_option maxRecDepth 100000 in
set_option maxHeartbeats 0 in
theorem impl_areAll_int_t (w0 : World) (A0_ : Option Addr) (p0_ : Nat) (l0 : List Int) (k0_ : Chunk) (v0_ : View (Lay.int .i64) A0_ p0_ l0 k0_) (w0_ : Has w0 k0_) (f1_ : FuncId) (c1_ : List Value) (e1_ : Enters Try.prog f1_) (q1 : Int → Option (Bool)) (k1_ : Chunk) (t1_ : ∀ w, Has w k1_ → ∀ (z0 : Int) (r : Bool), q1 z0 = some r → Calls Try.prog f1_ (([.int .i64 z0] : List Value) ++ c1_).toArray w (Ret (fun v w2 => v = .bool r ∧ Sat [] w w2 [] []))) (w1_ : Has w0 k1_) (r : Bool) (H : impl_areAll_int.f l0 q1 = some r) :
    Calls Try.prog 114 #[.slice A0_ l0.length p0_, .func (.func f1_) #[] c1_.toArray] w0 (Ret (fun v w => v = .bool r ∧ Sat [] w0 w [] [])) := by
  have hs : Sat [] w0 w0 [(1, k0_), (2, k1_)] [] := Sat.init w0 [(1, k0_), (2, k1_)] [] (by simp only [List.mem_cons, List.not_mem_nil, or_false]; rintro x (rfl | rfl) <;> assumption) (by simp) List.nodup_nil (by simp [blks])
  unfold impl_areAll_int.f at H
  refine enter Try.func114 rfl Try.ntmps114 rfl fun a hk => ?_
  apply wp_seq_k; intro K1 hK1
  apply wp_region_lit
  refine sbx 3 hs rfl hk rfl rfl rfl rfl fun b2 w a hk hs => ?_
  refine sa _ rfl hk rfl rfl rfl fun a hk => ?_
  show wpList _ _ _ [] _ _
  refine wpList_nil ?_
  refine hK1 _ _ ?_
  apply wp_seq_k; intro K3 hK3
  apply wp_region_lit
  refine sm _ rfl hk rfl rfl rfl fun a hk => ?_
  refine smf (cs := [.pointer (some ⟨b2, 0, none⟩)]) rfl hk rfl rfl rfl fun a hk => ?_
  obtain ⟨y4, h5, H⟩ := bind_some H
  refine sc rfl en154 hk rfl rfl rfl (slices_ContainsFunc_int_int_t _ A0_ p0_ l0 _ v0_ (hs.hasD (k := 1) rfl) 155 [.pointer (some ⟨b2, 0, none⟩)] en155 (fun z0 => impl_areAll_int__c1.f z0 q1) ([(b2, .cells #[.func (.func f1_) #[] c1_.toArray] 113 (0, 0))] ++ k1_) (fun w hz z0 r h => impl_areAll_int__c1_t w z0 _ f1_ c1_ e1_ q1 k1_ t1_ (Has.right hz) (Has.left hz) r h) (Has.app (hs.hasG (k := 3) rfl) (hs.hasD (k := 2) rfl)) _ h5) ?_
  rintro _ w ⟨rfl, hG⟩ a hk
  have hs := hs.call0 hG
  refine sv (.bool (!y4)) hk rfl rfl rfl fun a hk => ?_
  refine sa _ rfl hk rfl rfl rfl fun a hk => ?_
  show wpList _ _ _ [] _ _
  refine wpList_nil ?_
  refine hK3 _ _ ?_
  refine wp_ret ?_
  obtain rfl := Option.some.inj H
  exact fin hk _ [(.bool (!y4))] rfl ⟨rfl, trivial⟩ ⟨rfl, (hs.pick [] rfl).dnil⟩

noncomputable def slices_Index_int_int.s0 (l0 : List Int) (x1 : Int) (u6 : Int) : Option ((Int) ⊕ Ex (Unit) (Int)) :=
  (bif (decide (u6 < (l0.length : Int))) then (if 0 ≤ u6 ∧ u6 < (l0.length : Int) then (bif (x1 == (l0.getD u6.toNat 0)) then (some (.inr (.ret u6))) else (some (.inl (w64 (u6 + 1))))) else none) else (some (.inr (.out ()))))
noncomputable def slices_Index_int_int.f (l0 : List Int) (x1 : Int) : Option (Int) :=
  ((loopO (fun s => slices_Index_int_int.s0 l0 x1 s) 0).bind fun o => match o with | .out _ => (some (-1)) | .ret r => (some r))
set_option maxRecDepth 100000 in
set_option maxHeartbeats 0 in
theorem slices_Index_int_int_t (w0 : World) (A0_ : Option Addr) (p0_ : Nat) (l0 : List Int) (k0_ : Chunk) (v0_ : View (Lay.int .i64) A0_ p0_ l0 k0_) (w0_ : Has w0 k0_) (x1 : Int) (r : Int) (H : slices_Index_int_int.f l0 x1 = some r) :
    Calls Try.prog 186 #[.slice A0_ l0.length p0_, .int .i64 x1] w0 (Ret (fun v w => v = .int .i64 r ∧ Sat [] w0 w [] [])) := by
  have hs : Sat [] w0 w0 [(1, k0_)] [] := Sat.init w0 [(1, k0_)] [] (by simp only [List.mem_cons, List.not_mem_nil, or_false]; rintro x (rfl) <;> assumption) (by simp) List.nodup_nil (by simp [blks])
  unfold slices_Index_int_int.f at H
  refine enter Try.func186 rfl Try.ntmps186 rfl fun a hk => ?_
  apply wp_seq_k; intro K1 hK1
  apply wp_region_lit
  refine sa _ rfl hk rfl rfl rfl fun a hk => ?_
  show wpList _ _ _ [] _ _
  refine wpList_nil ?_
  refine hK1 _ _ ?_
  apply wp_seq_k; intro K2 hK2
  apply wp_seq_k; intro K3 hK3
  apply wp_region_lit
  refine sm _ rfl hk rfl rfl rfl fun a hk => ?_
  refine sle rfl hk rfl rfl rfl un31 fun a hk => ?_
  refine sm _ rfl hk rfl rfl rfl fun a hk => ?_
  show wpList _ _ _ [] _ _
  refine wpList_nil ?_
  refine hK3 _ _ ?_
  obtain ⟨o7, h8, HL9⟩ := bind_some H
  clear H
  obtain ⟨R10, hR10⟩ : ∃ R : Act → World → Prop, R = fun a w => o7 = .out () ∧ Kn [] 19 a ∧ Sat [] w0 w [(1, k0_)] [] := ⟨_, rfl⟩
  refine wp_cutq R10 ?_ ?_
  · refine wp_block ?_
    obtain ⟨fu12, h8⟩ := loopO_some h8
    obtain ⟨I11, hI11⟩ : ∃ I : Nat → Act → World → Prop, I = fun fu a w => ∃ (u6 : Int), loopN (fun s => slices_Index_int_int.s0 l0 x1 s) fu u6 = some o7 ∧ Kn [(0, (.slice A0_ l0.length p0_)), (1, (.int .i64 x1)), (7, (.int .i64 (l0.length : Int))), (8, (.int .i64 u6))] 19 a ∧ Sat [] w0 w [(1, k0_)] [] := ⟨_, rfl⟩
    refine wp_loop_ghost I11 fu12 ?_ ?_
    · rw [hI11]
      exact ⟨0, h8, (hk.c 0 rfl (hk.c 1 rfl (hk.c 7 rfl (hk.c 8 rfl hk.k)))), (hs.pick [] rfl)⟩
    · clear h8 hk hs
      intro fu12 a w hI0
      rw [hI11] at hI0
      obtain ⟨u6, hi, hk, hs⟩ := hI0
      obtain ⟨x13, H, h14⟩ := loop_round hi
      try dsimp only at H
      unfold slices_Index_int_int.s0 at H
      apply wp_seq_k; intro K15 hK15
      apply wp_region_lit
      refine sv (.bool (decide (u6 < (l0.length : Int)))) hk rfl rfl rfl fun a hk => ?_
      show wpList _ _ _ [] _ _
      refine wpList_nil ?_
      refine hK15 _ _ ?_
      apply wp_seq_k; intro K16 hK16
      rcases cond_some H with ⟨c17, H⟩ | ⟨c17, H⟩
      · have hk := hk.lit 9 c17 rfl
        refine cnd_true hk rfl rfl ?_
        refine wp_skip ?_
        refine hK16 _ _ ?_
        apply wp_seq_k; intro K18 hK18
        refine wp_block ?_
        apply wp_seq_k; intro K19 hK19
        apply wp_region_lit
        refine sm _ rfl hk rfl rfl rfl fun a hk => ?_
        refine sa _ rfl hk rfl rfl rfl fun a hk => ?_
        show wpList _ _ _ [] _ _
        refine wpList_nil ?_
        refine hK19 _ _ ?_
        apply wp_seq_k; intro K20 hK20
        apply wp_region_lit
        refine sm _ rfl hk rfl rfl rfl fun a hk => ?_
        refine sm _ rfl hk rfl rfl rfl fun a hk => ?_
        refine sm _ rfl hk rfl rfl rfl fun a hk => ?_
        rcases ite_some H with ⟨c21, H⟩ | ⟨_, H⟩
        rotate_left
        · cases H
        obtain ⟨b22, q23, hAc21⟩ := (v0_).some_ u6 c21.1 c21.2
        refine si rfl hk rfl rfl rfl rfl un31 sz3 c21.1 c21.2 hAc21 fun a hk => ?_
        obtain ⟨_, rfl, e24⟩ := (v0_).at_ 0 u6 c21.1 c21.2
        refine sl (v := (.int .i64 (l0.getD u6.toNat 0))) rfl hk rfl rfl rfl ag3 ((e24 0 _ rfl).cell (hs.hasD (k := 1) rfl)) fun a hk => ?_
        refine sv (.bool (x1 == (l0.getD u6.toNat 0))) hk rfl rfl rfl fun a hk => ?_
        show wpList _ _ _ [] _ _
        refine wpList_nil ?_
        refine hK20 _ _ ?_
        rcases cond_some H with ⟨c25, H⟩ | ⟨c25, H⟩
        · have hk := hk.lit 16 c25 rfl
          refine cnd_true hk rfl rfl ?_
          apply wp_seq_k; intro K26 hK26
          apply wp_region_lit
          refine sm _ rfl hk rfl rfl rfl fun a hk => ?_
          refine sa _ rfl hk rfl rfl rfl fun a hk => ?_
          show wpList _ _ _ [] _ _
          refine wpList_nil ?_
          refine hK26 _ _ ?_
          refine wp_ret ?_
          obtain rfl := Option.some.inj H
          have ho7 := h14
          try dsimp only at ho7
          subst ho7
          have H := HL9
          try dsimp only at H
          obtain rfl := Option.some.inj H
          exact fin hk _ [(.int .i64 u6)] rfl ⟨rfl, trivial⟩ ⟨rfl, (hs.pick [] rfl).dnil⟩
        · have hk := hk.lit 16 c25 rfl
          refine cnd_false hk rfl rfl ?_
          refine wp_skip ?_
          refine hK18 _ _ ?_
          apply wp_region_lit
          refine sv (.int .i64 (w64 (u6 + 1))) hk rfl rfl rfl fun a hk => ?_
          refine sm _ rfl hk rfl rfl rfl fun a hk => ?_
          show wpList _ _ _ [] _ _
          refine wpList_nil ?_
          obtain rfl := Option.some.inj H
          obtain ⟨m27, hmm27, h14⟩ := h14
          show ∃ n', n' < _ ∧ I11 n' _ _
          refine ⟨m27, hmm27, ?_⟩
          rw [hI11]
          exact ⟨(w64 (u6 + 1)), h14, (hk.c 0 rfl (hk.c 1 rfl (hk.c 7 rfl (hk.c 8 rfl hk.k)))), (hs.pick [] rfl)⟩
      · have hk := hk.lit 9 c17 rfl
        refine cnd_false hk rfl rfl ?_
        refine wp_exit ?_
        obtain rfl := Option.some.inj H
        show R10 _ _
        rw [hR10]
        exact ⟨h14.symm, hk.k, (hs.pick [] rfl)⟩
  · intro a w hR0
    rw [hR10] at hR0
    obtain ⟨rfl, hk, hs⟩ := hR0
    have H := HL9
    try dsimp only at H
    refine hK2 _ _ ?_
    apply wp_seq_k; intro K28 hK28
    apply wp_region_lit
    refine sa _ rfl hk rfl rfl rfl fun a hk => ?_
    show wpList _ _ _ [] _ _
    refine wpList_nil ?_
    refine hK28 _ _ ?_
    refine wp_ret ?_
    obtain rfl := Option.some.inj H
    exact fin hk _ [(.int .i64 (-1))] rfl ⟨rfl, trivial⟩ ⟨rfl, (hs.pick [] rfl).dnil⟩

noncomputable def slices_Contains_int_int.f (l0 : List Int) (x1 : Int) : Option (Bool) :=
  ((slices_Index_int_int.f l0 x1).bind fun y3 => (some (decide (y3 ≥ 0))))
set_option maxRecDepth 100000 in
set_option maxHeartbeats 0 in
theorem slices_Contains_int_int_t (w0 : World) (A0_ : Option Addr) (p0_ : Nat) (l0 : List Int) (k0_ : Chunk) (v0_ : View (Lay.int .i64) A0_ p0_ l0 k0_) (w0_ : Has w0 k0_) (x1 : Int) (r : Bool) (H : slices_Contains_int_int.f l0 x1 = some r) :
    Calls Try.prog 165 #[.slice A0_ l0.length p0_, .int .i64 x1] w0 (Ret (fun v w => v = .bool r ∧ Sat [] w0 w [] [])) := by
  have hs : Sat [] w0 w0 [(1, k0_)] [] := Sat.init w0 [(1, k0_)] [] (by simp only [List.mem_cons, List.not_mem_nil, or_false]; rintro x (rfl) <;> assumption) (by simp) List.nodup_nil (by simp [blks])
  unfold slices_Contains_int_int.f at H
  refine enter Try.func165 rfl Try.ntmps165 rfl fun a hk => ?_
  apply wp_seq_k; intro K1 hK1
  apply wp_region_lit
  refine sa _ rfl hk rfl rfl rfl fun a hk => ?_
  show wpList _ _ _ [] _ _
  refine wpList_nil ?_
  refine hK1 _ _ ?_
  apply wp_seq_k; intro K2 hK2
  apply wp_region_lit
  refine sm _ rfl hk rfl rfl rfl fun a hk => ?_
  refine sm _ rfl hk rfl rfl rfl fun a hk => ?_
  obtain ⟨y3, h4, H⟩ := bind_some H
  refine sc rfl en186 hk rfl rfl rfl (slices_Index_int_int_t _ A0_ p0_ l0 _ v0_ (hs.hasD (k := 1) rfl) x1 _ h4) ?_
  rintro _ w ⟨rfl, hG⟩ a hk
  have hs := hs.call0 hG
  refine sv (.bool (decide (y3 ≥ 0))) hk rfl rfl rfl fun a hk => ?_
  refine sa _ rfl hk rfl rfl rfl fun a hk => ?_
  show wpList _ _ _ [] _ _
  refine wpList_nil ?_
  refine hK2 _ _ ?_
  refine wp_ret ?_
  obtain rfl := Option.some.inj H
  exact fin hk _ [(.bool (decide (y3 ≥ 0)))] rfl ⟨rfl, trivial⟩ ⟨rfl, (hs.pick [] rfl).dnil⟩

noncomputable def slices_Reverse_int_int.s0 (l0 : List Int) (u_r8_13_7 : List Int) (u_r8_13_11 : Int) (u_r8_13_12 : Int) : Option (((List Int) × Int × Int) ⊕ Ex ((List Int)) ((List Int))) :=
  (bif (decide (u_r8_13_11 < u_r8_13_12)) then (if 0 ≤ u_r8_13_12 ∧ u_r8_13_12 < (l0.length : Int) then (if 0 ≤ u_r8_13_11 ∧ u_r8_13_11 < (l0.length : Int) then (if 0 ≤ u_r8_13_11 ∧ u_r8_13_11 < (l0.length : Int) then (if 0 ≤ u_r8_13_12 ∧ u_r8_13_12 < (l0.length : Int) then (some (.inl (((u_r8_13_7.set u_r8_13_11.toNat (u_r8_13_7.getD u_r8_13_12.toNat 0)).set u_r8_13_12.toNat (u_r8_13_7.getD u_r8_13_11.toNat 0)), (w64 (u_r8_13_11 + 1)), (w64 (u_r8_13_12 - 1))))) else none) else none) else none) else none) else (some (.inr (.out u_r8_13_7))))
noncomputable def slices_Reverse_int_int.f (l0 : List Int) : Option ((List Int)) :=
  ((loopO (fun s => slices_Reverse_int_int.s0 l0 s.1 s.2.1 s.2.2) (l0, 0, (w64 ((l0.length : Int) - 1)))).bind fun o => match o with | .out u_r8_13_17 => (some u_r8_13_17) | .ret r => (some r))
set_option maxRecDepth 100000 in
set_option maxHeartbeats 0 in
theorem slices_Reverse_int_int_t (w0 : World) (A0_ : Option Addr) (p0_ : Nat) (l0 : List Int) (k0_ : Chunk) (v0_ : Own (Lay.int .i64) 3 A0_ p0_ l0 k0_) (hs0 : Sat (blks [(103261, k0_)]) w0 w0 [] [(103261, k0_)]) (r : (List Int)) (H : slices_Reverse_int_int.f l0 = some r) :
    Calls Try.prog 187 #[.slice A0_ l0.length p0_] w0 (Ret (fun v w => ∃ (k0 : Chunk), v = .tuple #[] ∧ (Own (Lay.int .i64) 3 A0_ p0_ r k0 ∧ r.length = l0.length) ∧ Sat (blks [(103261, k0_)]) w0 w [] [(0, k0)])) := by
  have hs := hs0
  unfold slices_Reverse_int_int.f at H
  refine enter Try.func187 rfl Try.ntmps187 rfl fun a hk => ?_
  apply wp_seq_k; intro K1 hK1
  apply wp_region_lit
  refine sm _ rfl hk rfl rfl rfl fun a hk => ?_
  refine sle rfl hk rfl rfl rfl un31 fun a hk => ?_
  refine sv (.int .i64 (w64 ((l0.length : Int) - 1))) hk rfl rfl rfl fun a hk => ?_
  refine sa _ rfl hk rfl rfl rfl fun a hk => ?_
  refine sa _ rfl hk rfl rfl rfl fun a hk => ?_
  show wpList _ _ _ [] _ _
  refine wpList_nil ?_
  refine hK1 _ _ ?_
  obtain ⟨o_r8_13_21, h_r8_13_22, HL_r8_13_23⟩ := bind_some H
  clear H
  obtain ⟨R_r8_13_24, hR_r8_13_24⟩ : ∃ R : Act → World → Prop, R = fun a w => ∃ (u_r8_13_17 : List Int) (k_r8_13_18 : Chunk), o_r8_13_21 = .out u_r8_13_17 ∧ Kn [(0, (.slice A0_ l0.length p0_))] 28 a ∧ Sat (blks [(103261, k0_)]) w0 w [] [(103261, k_r8_13_18)] ∧ Own (Lay.int .i64) 3 A0_ p0_ u_r8_13_17 k_r8_13_18 ∧ u_r8_13_17.length = l0.length := ⟨_, rfl⟩
  refine wp_cutq R_r8_13_24 ?_ ?_
  · refine wp_block ?_
    obtain ⟨fu_r8_13_26, h_r8_13_22⟩ := loopO_some h_r8_13_22
    obtain ⟨I_r8_13_25, hI_r8_13_25⟩ : ∃ I : Nat → Act → World → Prop, I = fun fu a w => ∃ (u_r8_13_7 : List Int) (u_r8_13_11 : Int) (u_r8_13_12 : Int) (k_r8_13_8 : Chunk), loopN (fun s => slices_Reverse_int_int.s0 l0 s.1 s.2.1 s.2.2) fu (u_r8_13_7, u_r8_13_11, u_r8_13_12) = some o_r8_13_21 ∧ Kn [(0, (.slice A0_ l0.length p0_)), (2, (.int .i64 u_r8_13_11)), (3, (.int .i64 u_r8_13_12))] 28 a ∧ Sat (blks [(103261, k0_)]) w0 w [] [(103261, k_r8_13_8)] ∧ Own (Lay.int .i64) 3 A0_ p0_ u_r8_13_7 k_r8_13_8 ∧ u_r8_13_7.length = l0.length := ⟨_, rfl⟩
    refine wp_loop_ghost I_r8_13_25 fu_r8_13_26 ?_ ?_
    · rw [hI_r8_13_25]
      exact ⟨l0, 0, (w64 ((l0.length : Int) - 1)), _, h_r8_13_22, (hk.c 0 rfl (hk.c 2 rfl (hk.c 3 rfl hk.k))), (hs.pick [(103261, 103261)] rfl), v0_, rfl⟩
    · clear h_r8_13_22 hk hs
      intro fu_r8_13_26 a w hI0
      rw [hI_r8_13_25] at hI0
      obtain ⟨u_r8_13_7, u_r8_13_11, u_r8_13_12, k_r8_13_8, hi, hk, hs, o_r8_13_9, lh_r8_13_10⟩ := hI0
      obtain ⟨x_r8_13_27, H, h_r8_13_28⟩ := loop_round hi
      try dsimp only at H
      unfold slices_Reverse_int_int.s0 at H
      apply wp_seq_k; intro K2 hK2
      apply wp_seq_k; intro K3 hK3
      apply wp_region_lit
      refine sm _ rfl hk rfl rfl rfl fun a hk => ?_
      refine sm _ rfl hk rfl rfl rfl fun a hk => ?_
      refine sv (.bool (decide (u_r8_13_11 < u_r8_13_12))) hk rfl rfl rfl fun a hk => ?_
      show wpList _ _ _ [] _ _
      refine wpList_nil ?_
      refine hK3 _ _ ?_
      rcases cond_some H with ⟨c_r8_13_30, H⟩ | ⟨c_r8_13_30, H⟩
      · have hk := hk.lit 9 c_r8_13_30 rfl
        refine cnd_true hk rfl rfl ?_
        refine wp_skip ?_
        refine hK2 _ _ ?_
        apply wp_seq_k; intro K4 hK4
        refine wp_block ?_
        rcases ite_some H with ⟨c_r_r8_13_31_6_1, H⟩ | ⟨_, H⟩
        rotate_left
        · cases H
        rcases ite_some H with ⟨c_r_r8_13_31_10_1, H⟩ | ⟨_, H⟩
        rotate_left
        · cases H
        rcases ite_some H with ⟨c_r_r8_13_31_12_1, H⟩ | ⟨_, H⟩
        rotate_left
        · cases H
        rcases ite_some H with ⟨c_r_r8_13_31_14_1, H⟩ | ⟨_, H⟩
        rotate_left
        · cases H
        obtain ⟨R_r8_13_32, hR_r8_13_32⟩ : ∃ R : Act → World → Prop, R = fun a w => ∃ (k_r_r8_13_31_15_1 : Chunk), Kn [(0, (.slice A0_ l0.length p0_)), (2, (.int .i64 u_r8_13_11)), (3, (.int .i64 u_r8_13_12))] 28 a ∧ Sat (blks [(103261, k0_)]) w0 w [] [(103261, k_r_r8_13_31_15_1)] ∧ Own (Lay.int .i64) 3 A0_ p0_ ((u_r8_13_7.set u_r8_13_11.toNat (u_r8_13_7.getD u_r8_13_12.toNat 0)).set u_r8_13_12.toNat (u_r8_13_7.getD u_r8_13_11.toNat 0)) k_r_r8_13_31_15_1 ∧ ((u_r8_13_7.set u_r8_13_11.toNat (u_r8_13_7.getD u_r8_13_12.toNat 0)).set u_r8_13_12.toNat (u_r8_13_7.getD u_r8_13_11.toNat 0)).length = l0.length := ⟨_, rfl⟩
        refine wp_cutq R_r8_13_32 ?_ ?_
        · skip
          refine wp_region_tree (.q 0 (.q 1 (.q 2 (.q 3 (.q 4 (.q 5 (.q 6 (.q 8 (.q 9 (.q 10 (.alt 7 (.alt 11 (.alt 12 (.alt 13 (.alt 14 (.last 15) .stop) .stop) .stop) .stop) (.alt 11 (.alt 7 (.alt 12 (.alt 13 (.alt 14 (.last 15) .stop) .stop) .stop) .stop) .stop)))))))))))) mo (by kernel_rfl) (hs.pick [] rfl) fun _ => ?_
          have hs := hs.drew
          refine tqst (.slice A0_ l0.length p0_) hk rfl rfl rfl rfl (fun w hs => sm _ rfl hk rfl rfl rfl fun a hk => qe hk) fun a hk => ?_
          refine tqst (.int .i64 u_r8_13_11) hk rfl rfl rfl rfl (fun w hs => sm _ rfl hk rfl rfl rfl fun a hk => qe hk) fun a hk => ?_
          refine tqst (.slice A0_ l0.length p0_) hk rfl rfl rfl rfl (fun w hs => sm _ rfl hk rfl rfl rfl fun a hk => qe hk) fun a hk => ?_
          refine tqst (.int .i64 u_r8_13_12) hk rfl rfl rfl rfl (fun w hs => sm _ rfl hk rfl rfl rfl fun a hk => qe hk) fun a hk => ?_
          refine tqst (.slice A0_ l0.length p0_) hk rfl rfl rfl rfl (fun w hs => sm _ rfl hk rfl rfl rfl fun a hk => qe hk) fun a hk => ?_
          refine tqst (.int .i64 u_r8_13_12) hk rfl rfl rfl rfl (fun w hs => sm _ rfl hk rfl rfl rfl fun a hk => qe hk) fun a hk => ?_
          obtain ⟨b_r_r8_13_31_6_2, q_r_r8_13_31_6_3, hAc_r_r8_13_31_6_1⟩ := (o_r8_13_9.view).some_ u_r8_13_12 c_r_r8_13_31_6_1.1 (by rw [lh_r8_13_10]; exact c_r_r8_13_31_6_1.2)
          refine tqst (.pointer (some (padd A0_ (u_r8_13_12.toNat * 1)))) hk rfl rfl rfl rfl (fun w hs => si rfl hk rfl rfl rfl rfl un31 sz3 c_r_r8_13_31_6_1.1 c_r_r8_13_31_6_1.2 hAc_r_r8_13_31_6_1 fun a hk => qe hk) fun a hk => ?_
          refine tqst (.slice A0_ l0.length p0_) hk rfl rfl rfl rfl (fun w hs => sm _ rfl hk rfl rfl rfl fun a hk => qe hk) fun a hk => ?_
          refine tqst (.int .i64 u_r8_13_11) hk rfl rfl rfl rfl (fun w hs => sm _ rfl hk rfl rfl rfl fun a hk => qe hk) fun a hk => ?_
          obtain ⟨b_r_r8_13_31_10_2, q_r_r8_13_31_10_3, hAc_r_r8_13_31_10_1⟩ := (o_r8_13_9.view).some_ u_r8_13_11 c_r_r8_13_31_10_1.1 (by rw [lh_r8_13_10]; exact c_r_r8_13_31_10_1.2)
          refine tqst (.pointer (some (padd A0_ (u_r8_13_11.toNat * 1)))) hk rfl rfl rfl rfl (fun w hs => si rfl hk rfl rfl rfl rfl un31 sz3 c_r_r8_13_31_10_1.1 c_r_r8_13_31_10_1.2 hAc_r_r8_13_31_10_1 fun a hk => qe hk) fun a hk => ?_
          refine tsst hk rfl rfl (fun K_r_r8_13_31_7 hK_r_r8_13_31_7 w hF => ?_) ?_
          · skip
            have hs := hs.f hF
            obtain ⟨_, rfl, e_r_r8_13_31_7_1⟩ := (o_r8_13_9.view).at_ 0 u_r8_13_12 c_r_r8_13_31_6_1.1 (by rw [lh_r8_13_10]; exact c_r_r8_13_31_6_1.2)
            refine sl (v := (.int .i64 (u_r8_13_7.getD u_r8_13_12.toNat 0))) rfl hk rfl rfl rfl ag3 ((e_r_r8_13_31_7_1 0 _ rfl).cell (hs.hasG (k := 103261) rfl)) fun a hk => ?_
            refine se (hs.pick [] rfl) hk (hK_r_r8_13_31_7 _ _ ?_)
            refine tsst hk rfl rfl (fun K_r_r8_13_31_11 hK_r_r8_13_31_11 w hF => ?_) wt_stop
            have hs := hs.f hF
            obtain ⟨_, rfl, e_r_r8_13_31_11_1⟩ := (o_r8_13_9.view).at_ 0 u_r8_13_11 c_r_r8_13_31_10_1.1 (by rw [lh_r8_13_10]; exact c_r_r8_13_31_10_1.2)
            refine sl (v := (.int .i64 (u_r8_13_7.getD u_r8_13_11.toNat 0))) rfl hk rfl rfl rfl ag3 ((e_r_r8_13_31_11_1 0 _ rfl).cell (hs.hasG (k := 103261) rfl)) fun a hk => ?_
            refine se (hs.pick [] rfl) hk (hK_r_r8_13_31_11 _ _ ?_)
            refine tsst hk rfl rfl (fun K_r_r8_13_31_12 hK_r_r8_13_31_12 w hF => ?_) wt_stop
            have hs := hs.f hF
            obtain ⟨b_r_r8_13_31_12_2, q_r_r8_13_31_12_3, hAc_r_r8_13_31_12_1⟩ := (o_r8_13_9.view).some_ u_r8_13_11 c_r_r8_13_31_12_1.1 (by rw [lh_r8_13_10]; exact c_r_r8_13_31_12_1.2)
            refine si rfl hk rfl rfl rfl rfl un31 sz3 c_r_r8_13_31_12_1.1 c_r_r8_13_31_12_1.2 hAc_r_r8_13_31_12_1 fun a hk => ?_
            refine se (hs.pick [] rfl) hk (hK_r_r8_13_31_12 _ _ ?_)
            refine tsst hk rfl rfl (fun K_r_r8_13_31_13 hK_r_r8_13_31_13 w hF => ?_) wt_stop
            have hs := hs.f hF
            refine so (j := 0) 103261 0 (u_r8_13_7.getD u_r8_13_12.toNat 0) hs rfl o_r8_13_9 c_r_r8_13_31_12_1.1 (by rw [lh_r8_13_10]; exact c_r_r8_13_31_12_1.2) rfl hk rfl rfl rfl rfl rfl sz3 (by simp [Value.cells, Value.oneCell']) (Nat.le_of_ble_eq_true rfl) (fun _ _ h => ⟨by rw [h.1]; rfl, h.2⟩) fun k_r_r8_13_31_13_1 w a hk o_r_r8_13_31_13_2 hs => ?_
            have lh_r_r8_13_31_13_3 : (u_r8_13_7.set u_r8_13_11.toNat (u_r8_13_7.getD u_r8_13_12.toNat 0)).length = l0.length := by rw [List.length_set]; exact lh_r8_13_10
            refine se (hs.pick [] rfl) hk (hK_r_r8_13_31_13 _ _ ?_)
            refine tsst hk rfl rfl (fun K_r_r8_13_31_14 hK_r_r8_13_31_14 w hF => ?_) wt_stop
            have hs := hs.f hF
            obtain ⟨b_r_r8_13_31_14_2, q_r_r8_13_31_14_3, hAc_r_r8_13_31_14_1⟩ := (o_r_r8_13_31_13_2.view).some_ u_r8_13_12 c_r_r8_13_31_14_1.1 (by rw [lh_r_r8_13_31_13_3]; exact c_r_r8_13_31_14_1.2)
            refine si rfl hk rfl rfl rfl rfl un31 sz3 c_r_r8_13_31_14_1.1 c_r_r8_13_31_14_1.2 hAc_r_r8_13_31_14_1 fun a hk => ?_
            refine se (hs.pick [] rfl) hk (hK_r_r8_13_31_14 _ _ ?_)
            refine tlst hk rfl rfl fun K_r_r8_13_31_15 hK_r_r8_13_31_15 w hF => ?_
            have hs := hs.f hF
            refine so (j := 0) 103261 0 (u_r8_13_7.getD u_r8_13_11.toNat 0) hs rfl o_r_r8_13_31_13_2 c_r_r8_13_31_14_1.1 (by rw [lh_r_r8_13_31_13_3]; exact c_r_r8_13_31_14_1.2) rfl hk rfl rfl rfl rfl rfl sz3 (by simp [Value.cells, Value.oneCell']) (Nat.le_of_ble_eq_true rfl) (fun _ _ h => ⟨by rw [h.1]; rfl, h.2⟩) fun k_r_r8_13_31_15_1 w a hk o_r_r8_13_31_15_2 hs => ?_
            have lh_r_r8_13_31_15_3 : ((u_r8_13_7.set u_r8_13_11.toNat (u_r8_13_7.getD u_r8_13_12.toNat 0)).set u_r8_13_12.toNat (u_r8_13_7.getD u_r8_13_11.toNat 0)).length = l0.length := by rw [List.length_set]; exact lh_r_r8_13_31_13_3
            refine se trivial hk (hK_r_r8_13_31_15 _ _ fun w hF => ?_)
            have hs := hs.f hF
            show R_r8_13_32 _ _
            rw [hR_r8_13_32]
            exact ⟨k_r_r8_13_31_15_1, (hk.c 0 rfl (hk.c 2 rfl (hk.c 3 rfl hk.k))), (hs.pick [(103261, 103261)] rfl), o_r_r8_13_31_15_2, lh_r_r8_13_31_15_3⟩
          refine tsst hk rfl rfl (fun K_r_r8_13_31_11 hK_r_r8_13_31_11 w hF => ?_) wt_stop
          have hs := hs.f hF
          obtain ⟨_, rfl, e_r_r8_13_31_11_1⟩ := (o_r8_13_9.view).at_ 0 u_r8_13_11 c_r_r8_13_31_10_1.1 (by rw [lh_r8_13_10]; exact c_r_r8_13_31_10_1.2)
          refine sl (v := (.int .i64 (u_r8_13_7.getD u_r8_13_11.toNat 0))) rfl hk rfl rfl rfl ag3 ((e_r_r8_13_31_11_1 0 _ rfl).cell (hs.hasG (k := 103261) rfl)) fun a hk => ?_
          refine se (hs.pick [] rfl) hk (hK_r_r8_13_31_11 _ _ ?_)
          refine tsst hk rfl rfl (fun K_r_r8_13_31_7 hK_r_r8_13_31_7 w hF => ?_) wt_stop
          have hs := hs.f hF
          obtain ⟨_, rfl, e_r_r8_13_31_7_1⟩ := (o_r8_13_9.view).at_ 0 u_r8_13_12 c_r_r8_13_31_6_1.1 (by rw [lh_r8_13_10]; exact c_r_r8_13_31_6_1.2)
          refine sl (v := (.int .i64 (u_r8_13_7.getD u_r8_13_12.toNat 0))) rfl hk rfl rfl rfl ag3 ((e_r_r8_13_31_7_1 0 _ rfl).cell (hs.hasG (k := 103261) rfl)) fun a hk => ?_
          refine se (hs.pick [] rfl) hk (hK_r_r8_13_31_7 _ _ ?_)
          refine tsst hk rfl rfl (fun K_r_r8_13_31_12 hK_r_r8_13_31_12 w hF => ?_) wt_stop
          have hs := hs.f hF
          obtain ⟨b_r_r8_13_31_12_2, q_r_r8_13_31_12_3, hAc_r_r8_13_31_12_1⟩ := (o_r8_13_9.view).some_ u_r8_13_11 c_r_r8_13_31_12_1.1 (by rw [lh_r8_13_10]; exact c_r_r8_13_31_12_1.2)
          refine si rfl hk rfl rfl rfl rfl un31 sz3 c_r_r8_13_31_12_1.1 c_r_r8_13_31_12_1.2 hAc_r_r8_13_31_12_1 fun a hk => ?_
          refine se (hs.pick [] rfl) hk (hK_r_r8_13_31_12 _ _ ?_)
          refine tsst hk rfl rfl (fun K_r_r8_13_31_13 hK_r_r8_13_31_13 w hF => ?_) wt_stop
          have hs := hs.f hF
          refine so (j := 0) 103261 0 (u_r8_13_7.getD u_r8_13_12.toNat 0) hs rfl o_r8_13_9 c_r_r8_13_31_12_1.1 (by rw [lh_r8_13_10]; exact c_r_r8_13_31_12_1.2) rfl hk rfl rfl rfl rfl rfl sz3 (by simp [Value.cells, Value.oneCell']) (Nat.le_of_ble_eq_true rfl) (fun _ _ h => ⟨by rw [h.1]; rfl, h.2⟩) fun k_r_r8_13_31_13_1 w a hk o_r_r8_13_31_13_2 hs => ?_
          have lh_r_r8_13_31_13_3 : (u_r8_13_7.set u_r8_13_11.toNat (u_r8_13_7.getD u_r8_13_12.toNat 0)).length = l0.length := by rw [List.length_set]; exact lh_r8_13_10
          refine se (hs.pick [] rfl) hk (hK_r_r8_13_31_13 _ _ ?_)
          refine tsst hk rfl rfl (fun K_r_r8_13_31_14 hK_r_r8_13_31_14 w hF => ?_) wt_stop
          have hs := hs.f hF
          obtain ⟨b_r_r8_13_31_14_2, q_r_r8_13_31_14_3, hAc_r_r8_13_31_14_1⟩ := (o_r_r8_13_31_13_2.view).some_ u_r8_13_12 c_r_r8_13_31_14_1.1 (by rw [lh_r_r8_13_31_13_3]; exact c_r_r8_13_31_14_1.2)
          refine si rfl hk rfl rfl rfl rfl un31 sz3 c_r_r8_13_31_14_1.1 c_r_r8_13_31_14_1.2 hAc_r_r8_13_31_14_1 fun a hk => ?_
          refine se (hs.pick [] rfl) hk (hK_r_r8_13_31_14 _ _ ?_)
          refine tlst hk rfl rfl fun K_r_r8_13_31_15 hK_r_r8_13_31_15 w hF => ?_
          have hs := hs.f hF
          refine so (j := 0) 103261 0 (u_r8_13_7.getD u_r8_13_11.toNat 0) hs rfl o_r_r8_13_31_13_2 c_r_r8_13_31_14_1.1 (by rw [lh_r_r8_13_31_13_3]; exact c_r_r8_13_31_14_1.2) rfl hk rfl rfl rfl rfl rfl sz3 (by simp [Value.cells, Value.oneCell']) (Nat.le_of_ble_eq_true rfl) (fun _ _ h => ⟨by rw [h.1]; rfl, h.2⟩) fun k_r_r8_13_31_15_1 w a hk o_r_r8_13_31_15_2 hs => ?_
          have lh_r_r8_13_31_15_3 : ((u_r8_13_7.set u_r8_13_11.toNat (u_r8_13_7.getD u_r8_13_12.toNat 0)).set u_r8_13_12.toNat (u_r8_13_7.getD u_r8_13_11.toNat 0)).length = l0.length := by rw [List.length_set]; exact lh_r_r8_13_31_13_3
          refine se trivial hk (hK_r_r8_13_31_15 _ _ fun w hF => ?_)
          have hs := hs.f hF
          show R_r8_13_32 _ _
          rw [hR_r8_13_32]
          exact ⟨k_r_r8_13_31_15_1, (hk.c 0 rfl (hk.c 2 rfl (hk.c 3 rfl hk.k))), (hs.pick [(103261, 103261)] rfl), o_r_r8_13_31_15_2, lh_r_r8_13_31_15_3⟩
        · intro a w hR0
          rw [hR_r8_13_32] at hR0
          obtain ⟨k_r_r8_13_31_15_1, hk, hs, o_r_r8_13_31_15_2, lh_r_r8_13_31_15_3⟩ := hR0
          refine hK4 _ _ ?_
          apply wp_region_lit
          refine sm _ rfl hk rfl rfl rfl fun a hk => ?_
          refine sv (.int .i64 (w64 (u_r8_13_11 + 1))) hk rfl rfl rfl fun a hk => ?_
          refine sm _ rfl hk rfl rfl rfl fun a hk => ?_
          refine sv (.int .i64 (w64 (u_r8_13_12 - 1))) hk rfl rfl rfl fun a hk => ?_
          refine sa _ rfl hk rfl rfl rfl fun a hk => ?_
          refine sa _ rfl hk rfl rfl rfl fun a hk => ?_
          show wpList _ _ _ [] _ _
          refine wpList_nil ?_
          obtain rfl := Option.some.inj H
          obtain ⟨m_r8_13_33, hmm_r8_13_33, h_r8_13_28⟩ := h_r8_13_28
          show ∃ n', n' < _ ∧ I_r8_13_25 n' _ _
          refine ⟨m_r8_13_33, hmm_r8_13_33, ?_⟩
          rw [hI_r8_13_25]
          exact ⟨((u_r8_13_7.set u_r8_13_11.toNat (u_r8_13_7.getD u_r8_13_12.toNat 0)).set u_r8_13_12.toNat (u_r8_13_7.getD u_r8_13_11.toNat 0)), (w64 (u_r8_13_11 + 1)), (w64 (u_r8_13_12 - 1)), _, h_r8_13_28, (hk.c 0 rfl (hk.c 2 rfl (hk.c 3 rfl hk.k))), (hs.pick [(103261, 103261)] rfl), o_r_r8_13_31_15_2, lh_r_r8_13_31_15_3⟩
      · have hk := hk.lit 9 c_r8_13_30 rfl
        refine cnd_false hk rfl rfl ?_
        refine wp_exit ?_
        obtain rfl := Option.some.inj H
        show R_r8_13_24 _ _
        rw [hR_r8_13_24]
        exact ⟨u_r8_13_7, _, h_r8_13_28.symm, (hk.c 0 rfl hk.k), (hs.pick [(103261, 103261)] rfl), o_r8_13_9, lh_r8_13_10⟩
  · intro a w hR0
    rw [hR_r8_13_24] at hR0
    obtain ⟨u_r8_13_17, k_r8_13_18, rfl, hk, hs, o_r8_13_19, lh_r8_13_20⟩ := hR0
    have H := HL_r8_13_23
    try dsimp only at H
    obtain rfl := Option.some.inj H
    exact fin0 hk _ [] rfl trivial ⟨_, rfl, ⟨o_r8_13_19, lh_r8_13_20⟩, (hs.pick [(0, 103261)] rfl).dnil⟩

noncomputable def impl_pathOf.s0  (u12 : List Int) (u11 : Int) : Option (((List Int) × Int) ⊕ Ex (Unit) ((List Int))) :=
  (if u12.length + ([u11]).length ≤ 1073741824 then (bif (u11 == 0) then ((slices_Reverse_int_int.f (u12 ++ ([u11]))).bind fun y38 => (some (.inr (.ret y38)))) else (some (.inl ((u12 ++ ([u11])), (IntKind.wrap .i64 (Int.tdiv (w64 (u11 - 1)) 2)))))) else none)
noncomputable def impl_pathOf.f (x0 : Int) : Option ((List Int)) :=
  ((loopO (fun s => impl_pathOf.s0  s.1 s.2) (([] : List Int), (w64 (7 + x0)))).bind fun o => match o with | .out _ => none | .ret r => (some r))
set_option maxRecDepth 100000 in
set_option maxHeartbeats 0 in
theorem impl_pathOf_t (w0 : World) (x0 : Int) (r : (List Int)) (H : impl_pathOf.f x0 = some r) :
    Calls Try.prog 166 #[.int .i64 x0] w0 (Ret (fun v w => ∃ (A0 : Option Addr) (p0 : Nat) (k0 : Chunk), v = .slice A0 r.length p0 ∧ Own (Lay.int .i64) 3 A0 p0 r k0 ∧ Sat [] w0 w [] [(0, k0)])) := by
  have hs : Sat [] w0 w0 [] [] := Sat.init w0 [] [] (by simp) (by simp) List.nodup_nil (by simp [blks])
  unfold impl_pathOf.f at H
  refine enter Try.func166 rfl Try.ntmps166 rfl fun a hk => ?_
  apply wp_seq_k; intro K1 hK1
  apply wp_region_lit
  refine sa _ rfl hk rfl rfl rfl fun a hk => ?_
  show wpList _ _ _ [] _ _
  refine wpList_nil ?_
  refine hK1 _ _ ?_
  apply wp_seq_k; intro K2 hK2
  apply wp_region_lit
  refine sa _ rfl hk rfl rfl rfl fun a hk => ?_
  show wpList _ _ _ [] _ _
  refine wpList_nil ?_
  refine hK2 _ _ ?_
  apply wp_seq_k; intro K3 hK3
  apply wp_region_lit
  refine sm _ rfl hk rfl rfl rfl fun a hk => ?_
  refine sv (.int .i64 (w64 (7 + x0))) hk rfl rfl rfl fun a hk => ?_
  refine sa _ rfl hk rfl rfl rfl fun a hk => ?_
  show wpList _ _ _ [] _ _
  refine wpList_nil ?_
  refine hK3 _ _ ?_
  obtain ⟨o17, h18, HL19⟩ := bind_some H
  clear H
  obtain ⟨R20, hR20⟩ : ∃ R : Act → World → Prop, R = fun a w => o17 = .out () ∧ Kn [] 19 a ∧ Sat [] w0 w [] [] := ⟨_, rfl⟩
  refine wp_cutq R20 ?_ ?_
  · refine wp_block ?_
    obtain ⟨fu22, h18⟩ := loopO_some h18
    obtain ⟨I21, hI21⟩ : ∃ I : Nat → Act → World → Prop, I = fun fu a w => ∃ (u12 : List Int) (u11 : Int) (A15 : Option Addr) (p16 : Nat) (k13 : Chunk), loopN (fun s => impl_pathOf.s0  s.1 s.2) fu (u12, u11) = some o17 ∧ Kn [(3, (.slice A15 u12.length p16)), (4, (.int .i64 u11))] 19 a ∧ Sat [] w0 w [] [(3, k13)] ∧ Own (Lay.int .i64) 3 A15 p16 u12 k13 := ⟨_, rfl⟩
    refine wp_loop_ghost I21 fu22 ?_ ?_
    · rw [hI21]
      exact ⟨([] : List Int), (w64 (7 + x0)), none, 0, _, h18, (hk.c 3 rfl (hk.c 4 rfl hk.k)), ((hs.addNil 1003).pick [(3, 1003)] rfl), Own.nil _ _⟩
    · clear h18 hk hs
      intro fu22 a w hI0
      rw [hI21] at hI0
      obtain ⟨u12, u11, A15, p16, k13, hi, hk, hs, o14⟩ := hI0
      obtain ⟨x23, H, h24⟩ := loop_round hi
      try dsimp only at H
      unfold impl_pathOf.s0 at H
      apply wp_seq_k; intro K25 hK25
      refine wp_block ?_
      apply wp_seq_k; intro K26 hK26
      apply wp_region_lit
      refine sm _ rfl hk rfl rfl rfl fun a hk => ?_
      refine sm _ rfl hk rfl rfl rfl fun a hk => ?_
      refine sbs (L := (Lay.int .i64)) (pv := [(0, (.int .i64 u11))]) (xs := [u11]) (ess := [[.int .i64 u11]]) 4 hs rfl hk rfl rfl rfl un31 (bs3_0 u11) (AllOwn.cons0 ⟨rfl, rfl⟩ AllOwn.nil) rfl rfl rfl fun b27 k28 w a hk o29 hs => ?_
      rcases ite_some H with ⟨c30, H⟩ | ⟨_, H⟩
      rotate_left
      · cases H
      refine sap 3 (xs := u12) (ys := [u11]) (flat_flat : ((Lay.int .i64)).Flat) hs rfl o14 o29.view (hs.hasG (k := 4) rfl) rfl hk rfl rfl rfl rfl rfl rfl un31 mk3 rfl rfl rfl c30 fun A31 p32 k33 w a hk o34 hs => ?_
      refine sa _ rfl hk rfl rfl rfl fun a hk => ?_
      show wpList _ _ _ [] _ _
      refine wpList_nil ?_
      refine hK26 _ _ ?_
      apply wp_seq_k; intro K35 hK35
      apply wp_region_lit
      refine sm _ rfl hk rfl rfl rfl fun a hk => ?_
      refine sv (.bool (u11 == 0)) hk rfl rfl rfl fun a hk => ?_
      show wpList _ _ _ [] _ _
      refine wpList_nil ?_
      refine hK35 _ _ ?_
      rcases cond_some H with ⟨c36, H⟩ | ⟨c36, H⟩
      · have hk := hk.lit 15 c36 rfl
        refine cnd_true hk rfl rfl ?_
        apply wp_seq_k; intro K37 hK37
        apply wp_region_lit
        refine sm _ rfl hk rfl rfl rfl fun a hk => ?_
        obtain ⟨y38, h39, H⟩ := bind_some H
        refine sc rfl en187 hk rfl rfl rfl (slices_Reverse_int_int_t _ A31 p32 (u12 ++ ([u11])) _ o34 ((hs.hand [(103261, 3)] rfl).dpick [] rfl) _ h39) ?_
        rintro _ w ⟨k40, rfl, ⟨o41, lh42⟩, hG⟩ a hk
        have hs := hs.back [(103261, 3)] rfl hG [3] rfl
        have lh43 : y38.length = (u12 ++ ([u11])).length := lh42
        show wpList _ _ _ [] _ _
        refine wpList_nil ?_
        refine hK37 _ _ ?_
        apply wp_seq_k; intro K44 hK44
        apply wp_region_lit
        refine sm _ rfl hk rfl rfl rfl fun a hk => ?_
        refine sa _ rfl hk rfl rfl rfl fun a hk => ?_
        show wpList _ _ _ [] _ _
        refine wpList_nil ?_
        refine hK44 _ _ ?_
        refine wp_ret ?_
        obtain rfl := Option.some.inj H
        have ho17 := h24
        try dsimp only at ho17
        subst ho17
        have H := HL19
        try dsimp only at H
        obtain rfl := Option.some.inj H
        exact fin hk _ [(.slice A31 (u12 ++ ([u11])).length p32)] rfl ⟨rfl, trivial⟩ ⟨A31, p32, _, (by first | (rw [lh43]; done) | (rw [lh43]; rfl)), o41, (hs.pick [(0, 3)] rfl).dnil⟩
      · have hk := hk.lit 15 c36 rfl
        refine cnd_false hk rfl rfl ?_
        refine wp_skip ?_
        refine hK25 _ _ ?_
        apply wp_region_lit
        refine sm _ rfl hk rfl rfl rfl fun a hk => ?_
        refine sv (.int .i64 (w64 (u11 - 1))) hk rfl rfl rfl fun a hk => ?_
        refine sv (.int .i64 (IntKind.wrap .i64 (Int.tdiv (w64 (u11 - 1)) 2))) hk rfl rfl rfl fun a hk => ?_
        refine sa _ rfl hk rfl rfl rfl fun a hk => ?_
        show wpList _ _ _ [] _ _
        refine wpList_nil ?_
        obtain rfl := Option.some.inj H
        obtain ⟨m45, hmm45, h24⟩ := h24
        show ∃ n', n' < _ ∧ I21 n' _ _
        refine ⟨m45, hmm45, ?_⟩
        rw [hI21]
        exact ⟨(u12 ++ ([u11])), (IntKind.wrap .i64 (Int.tdiv (w64 (u11 - 1)) 2)), A31, p32, _, h24, (hk.c 3 rfl (hk.c 4 rfl hk.k)), (hs.pick [(3, 3)] rfl), o34⟩
  · intro a w hR0
    rw [hR20] at hR0
    obtain ⟨rfl, hk, hs⟩ := hR0
    have H := HL19
    try dsimp only at H
    cases H

noncomputable def impl_isOnPath.f (x0 : Int) (x1 : Int) : Option (Bool) :=
  ((impl_pathOf.f x1).bind fun y3 => ((slices_Contains_int_int.f y3 x0).bind fun y9 => (some y9)))
set_option maxRecDepth 100000 in
set_option maxHeartbeats 0 in
theorem impl_isOnPath_t (w0 : World) (x0 : Int) (x1 : Int) (r : Bool) (H : impl_isOnPath.f x0 x1 = some r) :
    Calls Try.prog 129 #[.int .i64 x0, .int .i64 x1] w0 (Ret (fun v w => v = .bool r ∧ Sat [] w0 w [] [])) := by
  have hs : Sat [] w0 w0 [] [] := Sat.init w0 [] [] (by simp) (by simp) List.nodup_nil (by simp [blks])
  unfold impl_isOnPath.f at H
  refine enter Try.func129 rfl Try.ntmps129 rfl fun a hk => ?_
  apply wp_seq_k; intro K1 hK1
  apply wp_region_lit
  refine sa _ rfl hk rfl rfl rfl fun a hk => ?_
  show wpList _ _ _ [] _ _
  refine wpList_nil ?_
  refine hK1 _ _ ?_
  apply wp_seq_k; intro K2 hK2
  apply wp_region_lit
  refine sm _ rfl hk rfl rfl rfl fun a hk => ?_
  obtain ⟨y3, h4, H⟩ := bind_some H
  refine sc rfl en166 hk rfl rfl rfl (impl_pathOf_t _ x1 _ h4) ?_
  rintro _ w ⟨A5, p6, k7, rfl, o8, hG⟩ a hk
  have hs := hs.call0k hG [1] rfl
  refine sm _ rfl hk rfl rfl rfl fun a hk => ?_
  obtain ⟨y9, h10, H⟩ := bind_some H
  refine sc rfl en165 hk rfl rfl rfl (slices_Contains_int_int_t _ A5 p6 y3 _ o8.view (hs.hasG (k := 1) rfl) x0 _ h10) ?_
  rintro _ w ⟨rfl, hG⟩ a hk
  have hs := hs.call0 hG
  refine sa _ rfl hk rfl rfl rfl fun a hk => ?_
  show wpList _ _ _ [] _ _
  refine wpList_nil ?_
  refine hK2 _ _ ?_
  refine wp_ret ?_
  obtain rfl := Option.some.inj H
  exact fin hk _ [(.bool y9)] rfl ⟨rfl, trivial⟩ ⟨rfl, (hs.pick [] rfl).dnil⟩

noncomputable def impl_OramOK_c1.f (x0 : S_Block) (x1 : Int) : Option (Bool) :=
  ((((impl_isLeaf.f x0.Leaf).bind fun y10 => (bif y10 then ((impl_isOnPath.f x1 x0.Leaf).bind fun y13 => (some y13)) else (some false))) : Option (Bool)).bind fun u5 => (some u5))
set_option maxRecDepth 100000 in
set_option maxHeartbeats 0 in
theorem impl_OramOK_c1_t (w0 : World) (x0 : S_Block) (b1_ : Nat) (x1 : Int) (h1_ : Has w0 [(b1_, .cells #[.int .i64 x1] 3 (0, 0))]) (r : Bool) (H : impl_OramOK_c1.f x0 x1 = some r) :
    Calls Try.prog 128 #[.agg #[.int .i64 x0.Id, .int .i64 x0.Leaf, .int .i64 x0.Value], .pointer (some ⟨b1_, 0, none⟩)] w0 (Ret (fun v w => v = .bool r ∧ Sat [] w0 w [] [])) := by
  have hs : Sat [] w0 w0 [(1, [(b1_, .cells #[.int .i64 x1] 3 (0, 0))])] [] := Sat.init w0 [(1, [(b1_, .cells #[.int .i64 x1] 3 (0, 0))])] [] (by simp only [List.mem_cons, List.not_mem_nil, or_false]; rintro x (rfl) <;> assumption) (by simp) List.nodup_nil (by simp [blks])
  unfold impl_OramOK_c1.f at H
  refine enter Try.func128 rfl Try.ntmps128 rfl fun a hk => ?_
  apply wp_seq_k; intro K1 hK1
  apply wp_region_lit
  refine sbx 2 hs rfl hk rfl rfl rfl rfl fun b2 w a hk hs => ?_
  refine sa _ rfl hk rfl rfl rfl fun a hk => ?_
  show wpList _ _ _ [] _ _
  refine wpList_nil ?_
  refine hK1 _ _ ?_
  apply wp_seq_k; intro K3 hK3
  obtain ⟨o6, h7, HL8⟩ := bind_some H
  clear H
  obtain ⟨R9, hR9⟩ : ∃ R : Act → World → Prop, R = fun a w => ∃ (u5 : Bool), u5 = o6 ∧ Kn [(3, (.bool u5))] 13 a ∧ Sat [] w0 w [(1, [(b1_, .cells #[.int .i64 x1] 3 (0, 0))])] [] := ⟨_, rfl⟩
  refine wp_cutq R9 ?_ ?_
  · have H := h7
    apply wp_region_lit
    refine sf ⟨b2, 1, none⟩ rfl hk rfl rfl rfl fd81_1 rfl fun a hk => ?_
    refine sl rfl hk rfl rfl rfl ag3 (box_cell hs (k := 2) rfl rfl) fun a hk => ?_
    obtain ⟨y10, h11, H⟩ := bind_some H
    refine sc rfl en106 hk rfl rfl rfl (impl_isLeaf_t _ x0.Leaf _ h11) ?_
    rintro _ w ⟨rfl, hG⟩ a hk
    have hs := hs.call0 hG
    refine sm _ rfl hk rfl rfl rfl fun a hk => ?_
    rcases cond_some H with ⟨c12, H⟩ | ⟨c12, H⟩
    · have hk := hk.lit 7 c12 rfl
      refine sl rfl hk rfl rfl rfl ag3 (box_cellD hs (k := 1) rfl rfl) fun a hk => ?_
      refine sf ⟨b2, 1, none⟩ rfl hk rfl rfl rfl fd81_1 rfl fun a hk => ?_
      refine sl rfl hk rfl rfl rfl ag3 (box_cell hs (k := 2) rfl rfl) fun a hk => ?_
      obtain ⟨y13, h14, H⟩ := bind_some H
      refine sc rfl en129 hk rfl rfl rfl (impl_isOnPath_t _ x1 x0.Leaf _ h14) ?_
      rintro _ w ⟨rfl, hG⟩ a hk
      have hs := hs.call0 hG
      refine sv (.bool y13) hk rfl rfl rfl fun a hk => ?_
      refine sa _ rfl hk rfl rfl rfl fun a hk => ?_
      show wpList _ _ _ [] _ _
      refine wpList_nil ?_
      obtain rfl := Option.some.inj H
      show R9 _ _
      rw [hR9]
      exact ⟨y13, rfl, (hk.c 3 rfl hk.k), (hs.pick [] rfl)⟩
    · have hk := hk.lit 7 c12 rfl
      refine sk hk rfl rfl rfl fun a hk => ?_
      refine sk hk rfl rfl rfl fun a hk => ?_
      refine sk hk rfl rfl rfl fun a hk => ?_
      refine sk hk rfl rfl rfl fun a hk => ?_
      refine sv (.bool false) hk rfl rfl rfl fun a hk => ?_
      refine sa _ rfl hk rfl rfl rfl fun a hk => ?_
      show wpList _ _ _ [] _ _
      refine wpList_nil ?_
      obtain rfl := Option.some.inj H
      show R9 _ _
      rw [hR9]
      exact ⟨false, rfl, (hk.c 3 rfl hk.k), (hs.pick [] rfl)⟩
  · intro a w hR0
    rw [hR9] at hR0
    obtain ⟨u5, rfl, hk, hs⟩ := hR0
    have H := HL8
    try dsimp only at H
    refine hK3 _ _ ?_
    refine wp_ret ?_
    obtain rfl := Option.some.inj H
    exact fin hk _ [(.bool u5)] rfl ⟨rfl, trivial⟩ ⟨rfl, (hs.pick [] rfl).dnil⟩

noncomputable def slices_Clone_impl_Block_impl_Block.f (l0 : List S_Block) : Option (List S_Block) :=
  (if l0.length ≤ 1073741824 then (some l0) else none)
set_option maxRecDepth 100000 in
set_option maxHeartbeats 0 in
theorem slices_Clone_impl_Block_impl_Block_t (w0 : World) (A0_ : Option Addr) (p0_ : Nat) (l0 : List S_Block) (k0_ : Chunk) (v0_ : View L_Block A0_ p0_ l0 k0_) (w0_ : Has w0 k0_) (r : List S_Block) (H : slices_Clone_impl_Block_impl_Block.f l0 = some r) :
    Calls Try.prog 167 #[.slice A0_ l0.length p0_] w0 (Ret (fun v w => ∃ (A0 : Option Addr) (p0 : Nat) (k0 : Chunk), v = .slice A0 r.length p0 ∧ Own L_Block 81 A0 p0 r k0 ∧ Sat [] w0 w [] [(0, k0)])) := by
  have hs : Sat [] w0 w0 [(1, k0_)] [] := Sat.init w0 [(1, k0_)] [] (by simp only [List.mem_cons, List.not_mem_nil, or_false]; rintro x (rfl) <;> assumption) (by simp) List.nodup_nil (by simp [blks])
  unfold slices_Clone_impl_Block_impl_Block.f at H
  rcases ite_some H with ⟨c, H⟩ | ⟨_, H⟩
  rotate_left
  · cases H
  obtain rfl := Option.some.inj H
  refine enter Try.func167 rfl Try.ntmps167 rfl fun a hk => ?_
  apply wp_seq_k; intro K1 hK1
  apply wp_region_lit
  refine sa _ rfl hk rfl rfl rfl fun a hk => ?_
  refine wpList_nil ?_
  refine hK1 _ _ ?_
  apply wp_seq_k; intro K3 hK3
  apply wp_seq_k; intro K2 hK2
  apply wp_region_lit
  refine sm _ rfl hk rfl rfl rfl fun a hk => ?_
  refine snl rfl hk rfl rfl rfl un26 fun a hk => ?_
  refine wpList_nil ?_
  refine hK2 _ _ ?_
  cases A0_ with
  | none =>
    obtain rfl := v0_.none_nil
    refine cnd_true hk rfl rfl ?_
    apply wp_seq_k; intro K4 hK4
    apply wp_region_lit
    refine sa _ rfl hk rfl rfl rfl fun a hk => ?_
    refine wpList_nil ?_
    refine hK4 _ _ ?_
    refine wp_ret ?_
    have hs := hs.addNil 9
    exact fin hk _ [(.slice none 0 0)] rfl ⟨rfl, trivial⟩ ⟨none, 0, [], rfl, Own.nil _ _, (hs.pick [(0, 9)] rfl).dnil⟩
  | some A0_ =>
    refine cnd_false hk rfl rfl ?_
    refine wp_skip ?_
    refine hK3 _ _ ?_
    apply wp_seq_k; intro K5 hK5
    apply wp_region_lit
    refine sbs0 2 L_Block hs rfl hk rfl rfl un26 sz81 fun b k w a hk o hs => ?_
    refine sm _ rfl hk rfl rfl rfl fun a hk => ?_
    refine sap 2 (xs := ([] : List S_Block)) (ys := l0) (flat_flat : (L_Block).Flat) hs rfl o v0_ (hs.hasD (k := 1) rfl) rfl hk rfl rfl rfl rfl rfl rfl un26 mk81 rfl rfl rfl (by simpa using c) fun A p k w a hk o hs => ?_
    refine sa _ rfl hk rfl rfl rfl fun a hk => ?_
    refine wpList_nil ?_
    refine hK5 _ _ ?_
    refine wp_ret ?_
    exact fin hk _ [(.slice A ([] ++ l0).length p)] rfl ⟨rfl, trivial⟩ ⟨A, p, _, rfl, o, (hs.pick [(0, 2)] rfl).dnil⟩

set_option maxRecDepth 100000 in
set_option maxHeartbeats 1000000 in
theorem slices_Grow_impl_Block_impl_Block_n {M : List Nat} {w00 w : World} {Δ Γ : List (Nat × Chunk)} (k n : Nat) (hs : Sat M w00 w Δ Γ) (hn : n ≤ 1073741824) :
    Calls Try.prog 188 #[.slice none 0 0, .int .i64 n] w (Ret (fun v w' => ∃ A cap c, v = .slice A ([] : List S_Block).length cap ∧ Own L_Block 81 A cap [] c ∧ Sat M w00 w' Δ ((k, c) :: Γ))) := by
  refine enter Try.func188 rfl Try.ntmps188 rfl fun a hk => ?_
  apply wp_seq_k; intro K1 hK1
  apply wp_region_lit
  refine sa _ rfl hk rfl rfl rfl fun a hk => ?_
  show wpList _ _ _ [] _ _
  refine wpList_nil ?_
  refine hK1 _ _ ?_
  apply wp_seq_k; intro K2 hK2
  apply wp_seq_k; intro K3 hK3
  apply wp_region_lit
  refine sm _ rfl hk rfl rfl rfl fun a hk => ?_
  refine sv (.bool (decide ((n : Int) < 0))) hk rfl rfl rfl fun a hk => ?_
  show wpList _ _ _ [] _ _
  refine wpList_nil ?_
  refine hK3 _ _ ?_
  have hk := hk.lit 6 (decide_eq_false (by omega)) rfl
  refine cnd_false hk rfl rfl ?_
  refine wp_skip ?_
  refine hK2 _ _ ?_
  apply wp_seq_k; intro K6 hK6
  apply wp_seq_k; intro K4 hK4
  apply wp_region_lit
  refine sm _ rfl hk rfl rfl rfl fun a hk => ?_
  refine sm _ rfl hk rfl rfl rfl fun a hk => ?_
  refine scap rfl hk rfl rfl rfl un26 fun a hk => ?_
  refine sm _ rfl hk rfl rfl rfl fun a hk => ?_
  refine sle rfl hk rfl rfl rfl un26 fun a hk => ?_
  refine sv (.int .i64 (w64 (((0 : Nat) : Int) - ((0 : Nat) : Int)))) hk rfl rfl rfl fun a hk => ?_
  rw [show w64 (((0 : Nat) : Int) - ((0 : Nat) : Int)) = 0 from rfl] at hk
  refine sv (.int .i64 (w64 ((n : Int) - 0))) hk rfl rfl rfl fun a hk => ?_
  rw [w64id (x := (n : Int) - 0) (by omega) (by omega), Int.sub_zero] at hk
  refine sa _ rfl hk rfl rfl rfl fun a hk => ?_
  show wpList _ _ _ [] _ _
  refine wpList_nil ?_
  refine hK4 _ _ ?_
  apply wp_seq_k; intro K5 hK5
  apply wp_region_lit
  refine sm _ rfl hk rfl rfl rfl fun a hk => ?_
  refine sv (.bool (decide ((0 : Int) < (n : Int)))) hk rfl rfl rfl fun a hk => ?_
  show wpList _ _ _ [] _ _
  refine wpList_nil ?_
  refine hK5 _ _ ?_
  by_cases h0 : 0 < n
  · have hk := hk.lit 16 (decide_eq_true (by omega)) rfl
    refine cnd_true hk rfl rfl ?_
    apply wp_region_lit
    refine sm _ rfl hk rfl rfl rfl fun a hk => ?_
    refine sm _ rfl hk rfl rfl rfl fun a hk => ?_
    refine scap rfl hk rfl rfl rfl un26 fun a hk => ?_
    refine sll_h rfl hk rfl rfl rfl rfl un26 sz81 (by omega) (by omega) fun a hk => ?_
    have hk := hk.re (v' := .slice none 0 0) 20 rfl (by simp)
    refine sm _ rfl hk rfl rfl rfl fun a hk => ?_
    have hs := hs.addNil k
    refine sapn k (xs := ([] : List S_Block)) (z := z_Block) hs (kget_cons _ _ _) (Own.nil _ 81) (by first | exact ⟨rfl, rfl⟩ | exact lz81) rfl hk rfl rfl rfl rfl rfl un26 (by kernel_rfl : Try.prog.underlying 3 = some (.int .i64)) mk81 rfl rfl rfl (by simp; omega) fun A1 p1 c1 w a hk o hs => ?_
    simp only [kdel, Nat.beq_refl, if_true] at hs
    have hne : ([] ++ List.replicate (n : Int).toNat z_Block : List S_Block) ≠ [] := by
      intro e
      have := congrArg List.length e
      simp at this; omega
    obtain ⟨b, rfl, cs, ess, cd, rfl, -, -, hcs, -, htop⟩ := o.opened hne
    have hs := hs.less (k := k) [(b, .cells cs 81 (0, 0))] cd (kget_cons _ _ _) (by simp)
    simp only [kdel, Nat.beq_refl, if_true] at hs
    refine sm _ rfl hk rfl rfl rfl fun a hk => ?_
    refine sle rfl hk rfl rfl rfl un26 fun a hk => ?_
    refine sll_h rfl hk rfl rfl rfl rfl un26 sz81 (by omega) (by omega) fun a hk => ?_
    have hk := hk.re (v' := .slice (some ⟨b, 0, none⟩) 0 p1) 25 rfl sl_head
    refine sa _ rfl hk rfl rfl rfl fun a hk => ?_
    show wpList _ _ _ [] _ _
    refine wpList_nil ?_
    refine hK6 _ _ ?_
    apply wp_seq_k; intro K7 hK7
    apply wp_region_lit
    refine sm _ rfl hk rfl rfl rfl fun a hk => ?_
    refine sa _ rfl hk rfl rfl rfl fun a hk => ?_
    show wpList _ _ _ [] _ _
    refine wpList_nil ?_
    refine hK7 _ _ ?_
    refine wp_ret ?_
    exact fin hk _ [(.slice (some ⟨b, 0, none⟩) 0 p1)] rfl ⟨rfl, trivial⟩ ⟨_, p1, _, rfl, .inr ⟨b, rfl, cs, [], [], rfl, .nil, by simp, hcs, Nat.zero_le _, htop⟩, hs⟩
  · have hk := hk.lit 16 (decide_eq_false (by omega)) rfl
    refine cnd_false hk rfl rfl ?_
    refine wp_skip ?_
    refine hK6 _ _ ?_
    apply wp_seq_k; intro K7 hK7
    apply wp_region_lit
    refine sm _ rfl hk rfl rfl rfl fun a hk => ?_
    refine sa _ rfl hk rfl rfl rfl fun a hk => ?_
    show wpList _ _ _ [] _ _
    refine wpList_nil ?_
    refine hK7 _ _ ?_
    refine wp_ret ?_
    exact fin hk _ [(.slice none 0 0)] rfl ⟨rfl, trivial⟩ ⟨none, 0, [], rfl, Own.nil _ _, hs.addNil k⟩
theorem slices_Grow_impl_Block_impl_Block_t {M : List Nat} {w00 w : World} {Δ Γ : List (Nat × Chunk)} (k : Nat) {n : Int} (hs : Sat M w00 w Δ Γ) (hn : 0 ≤ n ∧ n ≤ 1073741824) :
    Calls Try.prog 188 #[.slice none 0 0, .int .i64 n] w (Ret (fun v w' => ∃ A cap c, v = .slice A ([] : List S_Block).length cap ∧ Own L_Block 81 A cap [] c ∧ Sat M w00 w' Δ ((k, c) :: Γ))) := by
  obtain ⟨m, rfl⟩ := Int.eq_ofNat_of_zero_le hn.1
  exact slices_Grow_impl_Block_impl_Block_n k m hs (by omega)

noncomputable def slices_Concat_impl_Block_impl_Block.s0 (l0 : List (List S_Block)) (u7 : Int) (u8 : Int) : Option ((Int × Int) ⊕ Ex (Int) ((List S_Block))) :=
  (bif (decide (u8 < (l0.length : Int))) then (if 0 ≤ u8 ∧ u8 < (l0.length : Int) then (bif (decide ((w64 (u7 + ((l0.getD u8.toNat []).length : Int))) < 0)) then none else (some (.inl ((w64 (u7 + ((l0.getD u8.toNat []).length : Int))), (w64 (u8 + 1)))))) else none) else (some (.inr (.out u7))))
noncomputable def slices_Concat_impl_Block_impl_Block.s1 (l0 : List (List S_Block)) (u49 : List S_Block) (u48 : Int) : Option (((List S_Block) × Int) ⊕ Ex ((List S_Block)) ((List S_Block))) :=
  (bif (decide (u48 < (l0.length : Int))) then (if 0 ≤ u48 ∧ u48 < (l0.length : Int) then (if u49.length + (l0.getD u48.toNat []).length ≤ 1073741824 then (some (.inl ((u49 ++ (l0.getD u48.toNat [])), (w64 (u48 + 1))))) else none) else none) else (some (.inr (.out u49))))
noncomputable def slices_Concat_impl_Block_impl_Block.f (l0 : List (List S_Block)) : Option ((List S_Block)) :=
  ((loopO (fun s => slices_Concat_impl_Block_impl_Block.s0 l0 s.1 s.2) (0, 0)).bind fun o => match o with | .out u9 => (if 0 ≤ u9 ∧ u9 ≤ 1073741824 then ((loopO (fun s => slices_Concat_impl_Block_impl_Block.s1 l0 s.1 s.2) (([] : List S_Block), 0)).bind fun o => match o with | .out u54 => (some u54) | .ret r => (some r)) else none) | .ret r => (some r))
set_option maxRecDepth 100000 in
set_option maxHeartbeats 0 in
theorem slices_Concat_impl_Block_impl_Block_t (w0 : World) (A0_ : Option Addr) (p0_ : Nat) (l0 : List (List S_Block)) (k0_ : Chunk) (v0_ : View (Lay.sl L_Block 81) A0_ p0_ l0 k0_) (w0_ : Has w0 k0_) (r : (List S_Block)) (H : slices_Concat_impl_Block_impl_Block.f l0 = some r) :
    Calls Try.prog 168 #[.slice A0_ l0.length p0_] w0 (Ret (fun v w => ∃ (A0 : Option Addr) (p0 : Nat) (k0 : Chunk), v = .slice A0 r.length p0 ∧ Own L_Block 81 A0 p0 r k0 ∧ Sat [] w0 w [] [(0, k0)])) := by
  have hs : Sat [] w0 w0 [(1, k0_)] [] := Sat.init w0 [(1, k0_)] [] (by simp only [List.mem_cons, List.not_mem_nil, or_false]; rintro x (rfl) <;> assumption) (by simp) List.nodup_nil (by simp [blks])
  unfold slices_Concat_impl_Block_impl_Block.f at H
  refine enter Try.func168 rfl Try.ntmps168 rfl fun a hk => ?_
  apply wp_seq_k; intro K1 hK1
  apply wp_region_lit
  refine sa _ rfl hk rfl rfl rfl fun a hk => ?_
  show wpList _ _ _ [] _ _
  refine wpList_nil ?_
  refine hK1 _ _ ?_
  apply wp_seq_k; intro K2 hK2
  apply wp_region_lit
  refine sa _ rfl hk rfl rfl rfl fun a hk => ?_
  show wpList _ _ _ [] _ _
  refine wpList_nil ?_
  refine hK2 _ _ ?_
  apply wp_seq_k; intro K3 hK3
  apply wp_seq_k; intro K4 hK4
  apply wp_region_lit
  refine sm _ rfl hk rfl rfl rfl fun a hk => ?_
  refine sle rfl hk rfl rfl rfl un49 fun a hk => ?_
  refine sm _ rfl hk rfl rfl rfl fun a hk => ?_
  show wpList _ _ _ [] _ _
  refine wpList_nil ?_
  refine hK4 _ _ ?_
  obtain ⟨o10, h11, HL12⟩ := bind_some H
  clear H
  obtain ⟨R13, hR13⟩ : ∃ R : Act → World → Prop, R = fun a w => ∃ (u9 : Int), o10 = .out u9 ∧ Kn [(0, (.slice A0_ l0.length p0_)), (3, (.int .i64 u9))] 36 a ∧ Sat [] w0 w [(1, k0_)] [] := ⟨_, rfl⟩
  refine wp_cutq R13 ?_ ?_
  · refine wp_block ?_
    obtain ⟨fu15, h11⟩ := loopO_some h11
    obtain ⟨I14, hI14⟩ : ∃ I : Nat → Act → World → Prop, I = fun fu a w => ∃ (u7 : Int) (u8 : Int), loopN (fun s => slices_Concat_impl_Block_impl_Block.s0 l0 s.1 s.2) fu (u7, u8) = some o10 ∧ Kn [(0, (.slice A0_ l0.length p0_)), (3, (.int .i64 u7)), (9, (.slice A0_ l0.length p0_)), (10, (.int .i64 (l0.length : Int))), (11, (.int .i64 u8))] 36 a ∧ Sat [] w0 w [(1, k0_)] [] := ⟨_, rfl⟩
    refine wp_loop_ghost I14 fu15 ?_ ?_
    · rw [hI14]
      exact ⟨0, 0, h11, (hk.c 0 rfl (hk.c 3 rfl (hk.c 9 rfl (hk.c 10 rfl (hk.c 11 rfl hk.k))))), (hs.pick [] rfl)⟩
    · clear h11 hk hs
      intro fu15 a w hI0
      rw [hI14] at hI0
      obtain ⟨u7, u8, hi, hk, hs⟩ := hI0
      obtain ⟨x16, H, h17⟩ := loop_round hi
      try dsimp only at H
      unfold slices_Concat_impl_Block_impl_Block.s0 at H
      apply wp_seq_k; intro K18 hK18
      apply wp_region_lit
      refine sv (.bool (decide (u8 < (l0.length : Int)))) hk rfl rfl rfl fun a hk => ?_
      show wpList _ _ _ [] _ _
      refine wpList_nil ?_
      refine hK18 _ _ ?_
      apply wp_seq_k; intro K19 hK19
      rcases cond_some H with ⟨c20, H⟩ | ⟨c20, H⟩
      · have hk := hk.lit 12 c20 rfl
        refine cnd_true hk rfl rfl ?_
        refine wp_skip ?_
        refine hK19 _ _ ?_
        apply wp_seq_k; intro K21 hK21
        refine wp_block ?_
        apply wp_seq_k; intro K22 hK22
        apply wp_region_lit
        rcases ite_some H with ⟨c23, H⟩ | ⟨_, H⟩
        rotate_left
        · cases H
        obtain ⟨b24, q25, hAc23⟩ := (v0_).some_ u8 c23.1 c23.2
        refine si rfl hk rfl rfl rfl rfl un49 sz26 c23.1 c23.2 hAc23 fun a hk => ?_
        obtain ⟨_, ⟨_, rfl, A27, p28, rfl, v29⟩, e26⟩ := (v0_).at_ [] u8 c23.1 c23.2
        refine sl (v := (.slice A27 (l0.getD u8.toNat []).length p28)) rfl hk rfl rfl rfl ag26 ((e26 0 _ rfl).cell (hs.hasD (k := 1) rfl)) fun a hk => ?_
        refine sa _ rfl hk rfl rfl rfl fun a hk => ?_
        show wpList _ _ _ [] _ _
        refine wpList_nil ?_
        refine hK22 _ _ ?_
        apply wp_seq_k; intro K30 hK30
        apply wp_region_lit
        refine sm _ rfl hk rfl rfl rfl fun a hk => ?_
        refine sm _ rfl hk rfl rfl rfl fun a hk => ?_
        refine sle rfl hk rfl rfl rfl un26 fun a hk => ?_
        refine sv (.int .i64 (w64 (u7 + ((l0.getD u8.toNat []).length : Int)))) hk rfl rfl rfl fun a hk => ?_
        refine sa _ rfl hk rfl rfl rfl fun a hk => ?_
        show wpList _ _ _ [] _ _
        refine wpList_nil ?_
        refine hK30 _ _ ?_
        apply wp_seq_k; intro K31 hK31
        apply wp_region_lit
        refine sm _ rfl hk rfl rfl rfl fun a hk => ?_
        refine sv (.bool (decide ((w64 (u7 + ((l0.getD u8.toNat []).length : Int))) < 0))) hk rfl rfl rfl fun a hk => ?_
        show wpList _ _ _ [] _ _
        refine wpList_nil ?_
        refine hK31 _ _ ?_
        rcases cond_some H with ⟨c32, H⟩ | ⟨c32, H⟩
        · have hk := hk.lit 20 c32 rfl
          refine cnd_true hk rfl rfl ?_
          apply wp_region_lit
          cases H
        · have hk := hk.lit 20 c32 rfl
          refine cnd_false hk rfl rfl ?_
          refine wp_skip ?_
          refine hK21 _ _ ?_
          apply wp_region_lit
          refine sv (.int .i64 (w64 (u8 + 1))) hk rfl rfl rfl fun a hk => ?_
          refine sm _ rfl hk rfl rfl rfl fun a hk => ?_
          show wpList _ _ _ [] _ _
          refine wpList_nil ?_
          obtain rfl := Option.some.inj H
          obtain ⟨m33, hmm33, h17⟩ := h17
          show ∃ n', n' < _ ∧ I14 n' _ _
          refine ⟨m33, hmm33, ?_⟩
          rw [hI14]
          exact ⟨(w64 (u7 + ((l0.getD u8.toNat []).length : Int))), (w64 (u8 + 1)), h17, (hk.c 0 rfl (hk.c 3 rfl (hk.c 9 rfl (hk.c 10 rfl (hk.c 11 rfl hk.k))))), (hs.pick [] rfl)⟩
      · have hk := hk.lit 12 c20 rfl
        refine cnd_false hk rfl rfl ?_
        refine wp_exit ?_
        obtain rfl := Option.some.inj H
        show R13 _ _
        rw [hR13]
        exact ⟨u7, h17.symm, (hk.c 0 rfl (hk.c 3 rfl hk.k)), (hs.pick [] rfl)⟩
  · intro a w hR0
    rw [hR13] at hR0
    obtain ⟨u9, rfl, hk, hs⟩ := hR0
    have H := HL12
    try dsimp only at H
    refine hK3 _ _ ?_
    apply wp_seq_k; intro K34 hK34
    apply wp_region_lit
    refine sm _ rfl hk rfl rfl rfl fun a hk => ?_
    rcases ite_some H with ⟨c35, H⟩ | ⟨_, H⟩
    rotate_left
    · cases H
    refine sc rfl en188 hk rfl rfl rfl (slices_Grow_impl_Block_impl_Block_t 3 hs c35) ?_
    rintro _ w ⟨A36, p37, k38, rfl, o39, hs⟩ a hk
    refine sa _ rfl hk rfl rfl rfl fun a hk => ?_
    show wpList _ _ _ [] _ _
    refine wpList_nil ?_
    refine hK34 _ _ ?_
    apply wp_seq_k; intro K40 hK40
    apply wp_seq_k; intro K41 hK41
    apply wp_region_lit
    refine sm _ rfl hk rfl rfl rfl fun a hk => ?_
    refine sle rfl hk rfl rfl rfl un49 fun a hk => ?_
    refine sm _ rfl hk rfl rfl rfl fun a hk => ?_
    show wpList _ _ _ [] _ _
    refine wpList_nil ?_
    refine hK41 _ _ ?_
    obtain ⟨o59, h60, HL61⟩ := bind_some H
    clear H
    obtain ⟨R62, hR62⟩ : ∃ R : Act → World → Prop, R = fun a w => ∃ (u54 : List S_Block) (A57 : Option Addr) (p58 : Nat) (k55 : Chunk), o59 = .out u54 ∧ Kn [(6, (.slice A57 u54.length p58))] 36 a ∧ Sat [] w0 w [(1, k0_)] [(3, k55)] ∧ Own L_Block 81 A57 p58 u54 k55 := ⟨_, rfl⟩
    refine wp_cutq R62 ?_ ?_
    · refine wp_block ?_
      obtain ⟨fu64, h60⟩ := loopO_some h60
      obtain ⟨I63, hI63⟩ : ∃ I : Nat → Act → World → Prop, I = fun fu a w => ∃ (u49 : List S_Block) (u48 : Int) (A52 : Option Addr) (p53 : Nat) (k50 : Chunk), loopN (fun s => slices_Concat_impl_Block_impl_Block.s1 l0 s.1 s.2) fu (u49, u48) = some o59 ∧ Kn [(6, (.slice A52 u49.length p53)), (25, (.slice A0_ l0.length p0_)), (26, (.int .i64 (l0.length : Int))), (27, (.int .i64 u48))] 36 a ∧ Sat [] w0 w [(1, k0_)] [(3, k50)] ∧ Own L_Block 81 A52 p53 u49 k50 := ⟨_, rfl⟩
      refine wp_loop_ghost I63 fu64 ?_ ?_
      · rw [hI63]
        exact ⟨([] : List S_Block), 0, A36, p37, _, h60, (hk.c 6 rfl (hk.c 25 rfl (hk.c 26 rfl (hk.c 27 rfl hk.k)))), (hs.pick [(3, 3)] rfl), o39⟩
      · clear h60 hk hs
        intro fu64 a w hI0
        rw [hI63] at hI0
        obtain ⟨u49, u48, A52, p53, k50, hi, hk, hs, o51⟩ := hI0
        obtain ⟨x65, H, h66⟩ := loop_round hi
        try dsimp only at H
        unfold slices_Concat_impl_Block_impl_Block.s1 at H
        apply wp_seq_k; intro K67 hK67
        apply wp_region_lit
        refine sv (.bool (decide (u48 < (l0.length : Int)))) hk rfl rfl rfl fun a hk => ?_
        show wpList _ _ _ [] _ _
        refine wpList_nil ?_
        refine hK67 _ _ ?_
        apply wp_seq_k; intro K68 hK68
        rcases cond_some H with ⟨c69, H⟩ | ⟨c69, H⟩
        · have hk := hk.lit 28 c69 rfl
          refine cnd_true hk rfl rfl ?_
          refine wp_skip ?_
          refine hK68 _ _ ?_
          apply wp_seq_k; intro K70 hK70
          refine wp_block ?_
          apply wp_seq_k; intro K71 hK71
          apply wp_region_lit
          rcases ite_some H with ⟨c72, H⟩ | ⟨_, H⟩
          rotate_left
          · cases H
          obtain ⟨b73, q74, hAc72⟩ := (v0_).some_ u48 c72.1 c72.2
          refine si rfl hk rfl rfl rfl rfl un49 sz26 c72.1 c72.2 hAc72 fun a hk => ?_
          obtain ⟨_, ⟨_, rfl, A76, p77, rfl, v78⟩, e75⟩ := (v0_).at_ [] u48 c72.1 c72.2
          refine sl (v := (.slice A76 (l0.getD u48.toNat []).length p77)) rfl hk rfl rfl rfl ag26 ((e75 0 _ rfl).cell (hs.hasD (k := 1) rfl)) fun a hk => ?_
          refine sa _ rfl hk rfl rfl rfl fun a hk => ?_
          show wpList _ _ _ [] _ _
          refine wpList_nil ?_
          refine hK71 _ _ ?_
          apply wp_region_lit
          refine sm _ rfl hk rfl rfl rfl fun a hk => ?_
          refine sm _ rfl hk rfl rfl rfl fun a hk => ?_
          rcases ite_some H with ⟨c79, H⟩ | ⟨_, H⟩
          rotate_left
          · cases H
          refine sap 3 (xs := u49) (ys := (l0.getD u48.toNat [])) (flat_flat : (L_Block).Flat) hs rfl o51 v78 (hs.hasD (k := 1) rfl) rfl hk rfl rfl rfl rfl rfl rfl un26 mk81 rfl rfl rfl c79 fun A80 p81 k82 w a hk o83 hs => ?_
          refine sa _ rfl hk rfl rfl rfl fun a hk => ?_
          show wpList _ _ _ [] _ _
          refine wpList_nil ?_
          refine hK70 _ _ ?_
          apply wp_region_lit
          refine sv (.int .i64 (w64 (u48 + 1))) hk rfl rfl rfl fun a hk => ?_
          refine sm _ rfl hk rfl rfl rfl fun a hk => ?_
          show wpList _ _ _ [] _ _
          refine wpList_nil ?_
          obtain rfl := Option.some.inj H
          obtain ⟨m84, hmm84, h66⟩ := h66
          show ∃ n', n' < _ ∧ I63 n' _ _
          refine ⟨m84, hmm84, ?_⟩
          rw [hI63]
          exact ⟨(u49 ++ (l0.getD u48.toNat [])), (w64 (u48 + 1)), A80, p81, _, h66, (hk.c 6 rfl (hk.c 25 rfl (hk.c 26 rfl (hk.c 27 rfl hk.k)))), (hs.pick [(3, 3)] rfl), o83⟩
        · have hk := hk.lit 28 c69 rfl
          refine cnd_false hk rfl rfl ?_
          refine wp_exit ?_
          obtain rfl := Option.some.inj H
          show R62 _ _
          rw [hR62]
          exact ⟨u49, A52, p53, _, h66.symm, (hk.c 6 rfl hk.k), (hs.pick [(3, 3)] rfl), o51⟩
    · intro a w hR0
      rw [hR62] at hR0
      obtain ⟨u54, A57, p58, k55, rfl, hk, hs, o56⟩ := hR0
      have H := HL61
      try dsimp only at H
      refine hK40 _ _ ?_
      apply wp_seq_k; intro K85 hK85
      apply wp_region_lit
      refine sm _ rfl hk rfl rfl rfl fun a hk => ?_
      refine sa _ rfl hk rfl rfl rfl fun a hk => ?_
      show wpList _ _ _ [] _ _
      refine wpList_nil ?_
      refine hK85 _ _ ?_
      refine wp_ret ?_
      obtain rfl := Option.some.inj H
      exact fin hk _ [(.slice A57 u54.length p58)] rfl ⟨rfl, trivial⟩ ⟨A57, p58, _, rfl, o56, (hs.pick [(0, 3)] rfl).dnil⟩

noncomputable def impl_Oram_all.f (x0 : S_Oram) : Option ((List S_Block)) :=
  ((slices_Clone_impl_Block_impl_Block.f x0.Stash).bind fun y5 => ((slices_Concat_impl_Block_impl_Block.f x0.Buckets).bind fun y11 => (if y5.length + y11.length ≤ 1073741824 then (some (y5 ++ y11)) else none)))
set_option maxRecDepth 100000 in
set_option maxHeartbeats 0 in
theorem impl_Oram_all_t (w0 : World) (x0 : S_Oram) (A0_0 : Option Addr) (p0_0 : Nat) (k0_0 : Chunk) (v0_0 : View (Lay.int .i64) A0_0 p0_0 x0.Pos k0_0) (w0_0 : Has w0 k0_0) (A0_1 : Option Addr) (p0_1 : Nat) (k0_1 : Chunk) (v0_1 : View L_Block A0_1 p0_1 x0.Stash k0_1) (w0_1 : Has w0 k0_1) (A0_2 : Option Addr) (p0_2 : Nat) (k0_2 : Chunk) (v0_2 : View (Lay.sl L_Block 81) A0_2 p0_2 x0.Buckets k0_2) (w0_2 : Has w0 k0_2) (r : (List S_Block)) (H : impl_Oram_all.f x0 = some r) :
    Calls Try.prog 130 #[.agg #[.slice A0_0 x0.Pos.length p0_0, .slice A0_1 x0.Stash.length p0_1, .slice A0_2 x0.Buckets.length p0_2]] w0 (Ret (fun v w => ∃ (A0 : Option Addr) (p0 : Nat) (k0 : Chunk), v = .slice A0 r.length p0 ∧ Own L_Block 81 A0 p0 r k0 ∧ Sat [] w0 w [] [(0, k0)])) := by
  have hs : Sat [] w0 w0 [(1, k0_0), (2, k0_1), (3, k0_2)] [] := Sat.init w0 [(1, k0_0), (2, k0_1), (3, k0_2)] [] (by simp only [List.mem_cons, List.not_mem_nil, or_false]; rintro x (rfl | rfl | rfl) <;> assumption) (by simp) List.nodup_nil (by simp [blks])
  unfold impl_Oram_all.f at H
  refine enter Try.func130 rfl Try.ntmps130 rfl fun a hk => ?_
  apply wp_seq_k; intro K1 hK1
  apply wp_region_lit
  refine sbx 4 hs rfl hk rfl rfl rfl rfl fun b2 w a hk hs => ?_
  refine sa _ rfl hk rfl rfl rfl fun a hk => ?_
  show wpList _ _ _ [] _ _
  refine wpList_nil ?_
  refine hK1 _ _ ?_
  apply wp_seq_k; intro K3 hK3
  refine wp_region_tree (.q 0 (.q 1 (.q 3 (.q 4 (.alt 2 (.alt 5 (.alt 6 (.last 7) .stop) .stop) .stop))))) mo (by kernel_rfl) (hs.pick [(4, 4)] rfl) fun _ => ?_
  have hs := hs.drew
  refine tqst (.pointer (some ⟨b2, 1, none⟩)) hk rfl rfl rfl rfl (fun w hs => sf ⟨b2, 1, none⟩ rfl hk rfl rfl rfl fd51_1 rfl fun a hk => qe hk) fun a hk => ?_
  refine tqst (.slice A0_1 x0.Stash.length p0_1) hk rfl rfl rfl rfl (fun w hs => sl rfl hk rfl rfl rfl ag26 (box_cell hs (k := 4) rfl rfl) fun a hk => qe hk) fun a hk => ?_
  refine tqst (.pointer (some ⟨b2, 2, none⟩)) hk rfl rfl rfl rfl (fun w hs => sf ⟨b2, 2, none⟩ rfl hk rfl rfl rfl fd51_2 rfl fun a hk => qe hk) fun a hk => ?_
  refine tqst (.slice A0_2 x0.Buckets.length p0_2) hk rfl rfl rfl rfl (fun w hs => sl rfl hk rfl rfl rfl ag49 (box_cell hs (k := 4) rfl rfl) fun a hk => qe hk) fun a hk => ?_
  refine tsst hk rfl rfl (fun K_r4_2 hK_r4_2 w hF => ?_) wt_stop
  have hs := hs.f hF
  obtain ⟨y5, h6, H⟩ := bind_some H
  refine sc rfl en167 hk rfl rfl rfl (slices_Clone_impl_Block_impl_Block_t _ A0_1 p0_1 x0.Stash _ v0_1 (hs.hasD (k := 2) rfl) _ h6) ?_
  rintro _ w ⟨A7, p8, k9, rfl, o10, hG⟩ a hk
  have hs := hs.call0k hG [6] rfl
  refine se (hs.pick [(4, 4)] rfl) hk (hK_r4_2 _ _ ?_)
  refine tsst hk rfl rfl (fun K_r4_5 hK_r4_5 w hF => ?_) wt_stop
  have hs := hs.f hF
  obtain ⟨y11, h12, H⟩ := bind_some H
  refine sc rfl en168 hk rfl rfl rfl (slices_Concat_impl_Block_impl_Block_t _ A0_2 p0_2 x0.Buckets _ v0_2 (hs.hasD (k := 3) rfl) _ h12) ?_
  rintro _ w ⟨A13, p14, k15, rfl, o16, hG⟩ a hk
  have hs := hs.call0k hG [7] rfl
  refine se (hs.pick [(4, 4)] rfl) hk (hK_r4_5 _ _ ?_)
  refine tsst hk rfl rfl (fun K_r4_6 hK_r4_6 w hF => ?_) wt_stop
  have hs := hs.f hF
  rcases ite_some H with ⟨c17, H⟩ | ⟨_, H⟩
  rotate_left
  · cases H
  refine sap 6 (xs := y5) (ys := y11) (flat_flat : (L_Block).Flat) hs rfl o10 o16.view (hs.hasG (k := 7) rfl) rfl hk rfl rfl rfl rfl rfl rfl un26 mk81 rfl rfl rfl c17 fun A18 p19 k20 w a hk o21 hs => ?_
  refine se (hs.pick [(4, 4)] rfl) hk (hK_r4_6 _ _ ?_)
  refine tlst hk rfl rfl fun K_r4_7 hK_r4_7 w hF => ?_
  have hs := hs.f hF
  refine sa _ rfl hk rfl rfl rfl fun a hk => ?_
  refine se trivial hk (hK_r4_7 _ _ fun w hF => ?_)
  have hs := hs.f hF
  refine hK3 _ _ ?_
  refine wp_ret ?_
  obtain rfl := Option.some.inj H
  exact fin hk _ [(.slice A18 (y5 ++ y11).length p19)] rfl ⟨rfl, trivial⟩ ⟨A18, p19, _, rfl, o21, (hs.pick [(0, 6)] rfl).dnil⟩

noncomputable def impl_OramOK.s0 (x0 : S_Oram) (u21 : Int) : Option ((Int) ⊕ Ex (Unit) (Bool)) :=
  (bif (decide (u21 < (x0.Buckets.length : Int))) then (if 0 ≤ u21 ∧ u21 < (x0.Buckets.length : Int) then (((bif (decide (((x0.Buckets.getD u21.toNat []).length : Int) > 2)) then (some true) else ((impl_areAll_impl_Block.f (x0.Buckets.getD u21.toNat []) (fun z0 => impl_OramOK_c1.f z0 u21)).bind fun y51 => (some (!y51)))) : Option (Bool)).bind fun u45 => (bif u45 then (some (.inr (.ret false))) else (some (.inl (w64 (u21 + 1)))))) else none) else (some (.inr (.out ()))))
noncomputable def impl_OramOK.s1 (x0 : S_Oram) (y63 : (List S_Block)) (u71 : List Bool) (u75 : Int) : Option (((List Bool) × Int) ⊕ Ex (Unit) (Bool)) :=
  (bif (decide (u75 < (y63.length : Int))) then (if 0 ≤ u75 ∧ u75 < (y63.length : Int) then ((((impl_isBlock.f (y63.getD u75.toNat z_Block)).bind fun y102 => (bif (!y102) then (some true) else (if 0 ≤ ((y63.getD u75.toNat z_Block).Id) ∧ ((y63.getD u75.toNat z_Block).Id) < (x0.Pos.length : Int) then (bif (((y63.getD u75.toNat z_Block).Leaf) != (x0.Pos.getD ((y63.getD u75.toNat z_Block).Id).toNat 0)) then (some true) else (if 0 ≤ ((y63.getD u75.toNat z_Block).Id) ∧ ((y63.getD u75.toNat z_Block).Id) < (12 : Int) then (some (u71.getD ((y63.getD u75.toNat z_Block).Id).toNat false)) else none)) else none))) : Option (Bool)).bind fun u97 => (bif u97 then (some (.inr (.ret false))) else (if 0 ≤ ((y63.getD u75.toNat z_Block).Id) ∧ ((y63.getD u75.toNat z_Block).Id) < (12 : Int) then (some (.inl ((u71.set ((y63.getD u75.toNat z_Block).Id).toNat true), (w64 (u75 + 1))))) else none))) else none) else (some (.inr (.out ()))))
noncomputable def impl_OramOK.f (x0 : S_Oram) : Option (Bool) :=
  (((bif ((x0.Pos.length : Int) != 12) then (some true) else ((impl_areAll_int.f x0.Pos impl_isLeaf.f).bind fun y12 => (bif (!y12) then (some true) else (some ((x0.Buckets.length : Int) != 15))))) : Option (Bool)).bind fun u6 => (bif u6 then (some false) else ((loopO (fun s => impl_OramOK.s0 x0 s) 0).bind fun o => match o with | .out _ => ((impl_Oram_all.f x0).bind fun y63 => ((loopO (fun s => impl_OramOK.s1 x0 y63 s.1 s.2) ((List.replicate 12 (false : Bool)), 0)).bind fun o => match o with | .out _ => (some true) | .ret r => (some r))) | .ret r => (some r))))
set_option maxRecDepth 100000 in
set_option maxHeartbeats 0 in
theorem impl_OramOK_t (w0 : World) (x0 : S_Oram) (A0_0 : Option Addr) (p0_0 : Nat) (k0_0 : Chunk) (v0_0 : View (Lay.int .i64) A0_0 p0_0 x0.Pos k0_0) (w0_0 : Has w0 k0_0) (A0_1 : Option Addr) (p0_1 : Nat) (k0_1 : Chunk) (v0_1 : View L_Block A0_1 p0_1 x0.Stash k0_1) (w0_1 : Has w0 k0_1) (A0_2 : Option Addr) (p0_2 : Nat) (k0_2 : Chunk) (v0_2 : View (Lay.sl L_Block 81) A0_2 p0_2 x0.Buckets k0_2) (w0_2 : Has w0 k0_2) (r : Bool) (H : impl_OramOK.f x0 = some r) :
    Calls Try.prog 84 #[.agg #[.slice A0_0 x0.Pos.length p0_0, .slice A0_1 x0.Stash.length p0_1, .slice A0_2 x0.Buckets.length p0_2]] w0 (Ret (fun v w => v = .bool r ∧ Sat [] w0 w [] [])) := by
  have hs : Sat [] w0 w0 [(1, k0_0), (2, k0_1), (3, k0_2)] [] := Sat.init w0 [(1, k0_0), (2, k0_1), (3, k0_2)] [] (by simp only [List.mem_cons, List.not_mem_nil, or_false]; rintro x (rfl | rfl | rfl) <;> assumption) (by simp) List.nodup_nil (by simp [blks])
  unfold impl_OramOK.f at H
  refine enter Try.func84 rfl Try.ntmps84 rfl fun a hk => ?_
  apply wp_seq_k; intro K1 hK1
  apply wp_region_lit
  refine sbx 4 hs rfl hk rfl rfl rfl rfl fun b2 w a hk hs => ?_
  refine sa _ rfl hk rfl rfl rfl fun a hk => ?_
  show wpList _ _ _ [] _ _
  refine wpList_nil ?_
  refine hK1 _ _ ?_
  apply wp_seq_k; intro K3 hK3
  apply wp_seq_k; intro K4 hK4
  obtain ⟨o7, h8, HL9⟩ := bind_some H
  clear H
  obtain ⟨R10, hR10⟩ : ∃ R : Act → World → Prop, R = fun a w => ∃ (u6 : Bool), u6 = o7 ∧ Kn [(1, (.pointer (some ⟨b2, 0, none⟩))), (23, (.bool u6))] 73 a ∧ Sat [] w0 w [(1, k0_0), (2, k0_1), (3, k0_2)] [(4, [(b2, .cells #[.slice A0_0 x0.Pos.length p0_0, .slice A0_1 x0.Stash.length p0_1, .slice A0_2 x0.Buckets.length p0_2] 51 (0, 0))])] := ⟨_, rfl⟩
  refine wp_cutq R10 ?_ ?_
  · have H := h8
    apply wp_region_lit
    refine sf ⟨b2, 0, none⟩ rfl hk rfl rfl rfl fd51_0 rfl fun a hk => ?_
    refine sl rfl hk rfl rfl rfl ag31 (box_cell hs (k := 4) rfl rfl) fun a hk => ?_
    refine sle rfl hk rfl rfl rfl un31 fun a hk => ?_
    refine sv (.bool ((x0.Pos.length : Int) != 12)) hk rfl rfl rfl fun a hk => ?_
    refine sm _ rfl hk rfl rfl rfl fun a hk => ?_
    rcases cond_some H with ⟨c11, H⟩ | ⟨c11, H⟩
    · have hk := hk.lit 12 c11 rfl
      refine sk hk rfl rfl rfl fun a hk => ?_
      refine sk hk rfl rfl rfl fun a hk => ?_
      refine sk hk rfl rfl rfl fun a hk => ?_
      refine sk hk rfl rfl rfl fun a hk => ?_
      refine sv (.bool true) hk rfl rfl rfl fun a hk => ?_
      refine sm _ rfl hk rfl rfl rfl fun a hk => ?_
      refine sk hk rfl rfl rfl fun a hk => ?_
      refine sk hk rfl rfl rfl fun a hk => ?_
      refine sk hk rfl rfl rfl fun a hk => ?_
      refine sk hk rfl rfl rfl fun a hk => ?_
      refine sv (.bool true) hk rfl rfl rfl fun a hk => ?_
      show wpList _ _ _ [] _ _
      refine wpList_nil ?_
      obtain rfl := Option.some.inj H
      show R10 _ _
      rw [hR10]
      exact ⟨true, rfl, (hk.c 1 rfl (hk.c 23 rfl hk.k)), (hs.pick [(4, 4)] rfl)⟩
    · have hk := hk.lit 12 c11 rfl
      refine sf ⟨b2, 0, none⟩ rfl hk rfl rfl rfl fd51_0 rfl fun a hk => ?_
      refine sl rfl hk rfl rfl rfl ag31 (box_cell hs (k := 4) rfl rfl) fun a hk => ?_
      obtain ⟨y12, h13, H⟩ := bind_some H
      refine sc rfl en114 hk rfl rfl rfl (impl_areAll_int_t _ A0_0 p0_0 x0.Pos _ v0_0 (hs.hasD (k := 1) rfl) 106 [] en106 impl_isLeaf.f [] (fun w _ z0 r h => impl_isLeaf_t w z0 r h) (Has.nil _) _ h13) ?_
      rintro _ w ⟨rfl, hG⟩ a hk
      have hs := hs.call0 hG
      refine sv (.bool (!y12)) hk rfl rfl rfl fun a hk => ?_
      refine sv (.bool (!y12)) hk rfl rfl rfl fun a hk => ?_
      refine sm _ rfl hk rfl rfl rfl fun a hk => ?_
      rcases cond_some H with ⟨c14, H⟩ | ⟨c14, H⟩
      · have hk := hk.lit 18 c14 rfl
        refine sk hk rfl rfl rfl fun a hk => ?_
        refine sk hk rfl rfl rfl fun a hk => ?_
        refine sk hk rfl rfl rfl fun a hk => ?_
        refine sk hk rfl rfl rfl fun a hk => ?_
        refine sv (.bool true) hk rfl rfl rfl fun a hk => ?_
        show wpList _ _ _ [] _ _
        refine wpList_nil ?_
        obtain rfl := Option.some.inj H
        show R10 _ _
        rw [hR10]
        exact ⟨true, rfl, (hk.c 1 rfl (hk.c 23 rfl hk.k)), (hs.pick [(4, 4)] rfl)⟩
      · have hk := hk.lit 18 c14 rfl
        refine sf ⟨b2, 2, none⟩ rfl hk rfl rfl rfl fd51_2 rfl fun a hk => ?_
        refine sl rfl hk rfl rfl rfl ag49 (box_cell hs (k := 4) rfl rfl) fun a hk => ?_
        refine sle rfl hk rfl rfl rfl un49 fun a hk => ?_
        refine sv (.bool ((x0.Buckets.length : Int) != 15)) hk rfl rfl rfl fun a hk => ?_
        refine sv (.bool ((x0.Buckets.length : Int) != 15)) hk rfl rfl rfl fun a hk => ?_
        show wpList _ _ _ [] _ _
        refine wpList_nil ?_
        obtain rfl := Option.some.inj H
        show R10 _ _
        rw [hR10]
        exact ⟨((x0.Buckets.length : Int) != 15), rfl, (hk.c 1 rfl (hk.c 23 rfl hk.k)), (hs.pick [(4, 4)] rfl)⟩
  · intro a w hR0
    rw [hR10] at hR0
    obtain ⟨u6, rfl, hk, hs⟩ := hR0
    have H := HL9
    try dsimp only at H
    refine hK4 _ _ ?_
    rcases cond_some H with ⟨c15, H⟩ | ⟨c15, H⟩
    · have hk := hk.lit 23 c15 rfl
      refine cnd_true hk rfl rfl ?_
      apply wp_seq_k; intro K16 hK16
      apply wp_region_lit
      refine sa _ rfl hk rfl rfl rfl fun a hk => ?_
      show wpList _ _ _ [] _ _
      refine wpList_nil ?_
      refine hK16 _ _ ?_
      refine wp_ret ?_
      obtain rfl := Option.some.inj H
      exact fin hk _ [(.bool false)] rfl ⟨rfl, trivial⟩ ⟨rfl, (hs.pick [] rfl).dnil⟩
    · have hk := hk.lit 23 c15 rfl
      refine cnd_false hk rfl rfl ?_
      refine wp_skip ?_
      refine hK3 _ _ ?_
      apply wp_seq_k; intro K17 hK17
      apply wp_seq_k; intro K18 hK18
      apply wp_region_lit
      refine sf ⟨b2, 2, none⟩ rfl hk rfl rfl rfl fd51_2 rfl fun a hk => ?_
      refine sl rfl hk rfl rfl rfl ag49 (box_cell hs (k := 4) rfl rfl) fun a hk => ?_
      refine sle rfl hk rfl rfl rfl un49 fun a hk => ?_
      refine sm _ rfl hk rfl rfl rfl fun a hk => ?_
      show wpList _ _ _ [] _ _
      refine wpList_nil ?_
      refine hK18 _ _ ?_
      obtain ⟨o22, h23, HL24⟩ := bind_some H
      clear H
      obtain ⟨R25, hR25⟩ : ∃ R : Act → World → Prop, R = fun a w => o22 = .out () ∧ Kn [(1, (.pointer (some ⟨b2, 0, none⟩)))] 73 a ∧ Sat [] w0 w [(1, k0_0), (2, k0_1), (3, k0_2)] [(4, [(b2, .cells #[.slice A0_0 x0.Pos.length p0_0, .slice A0_1 x0.Stash.length p0_1, .slice A0_2 x0.Buckets.length p0_2] 51 (0, 0))])] := ⟨_, rfl⟩
      refine wp_cutq R25 ?_ ?_
      · refine wp_block ?_
        obtain ⟨fu27, h23⟩ := loopO_some h23
        obtain ⟨I26, hI26⟩ : ∃ I : Nat → Act → World → Prop, I = fun fu a w => ∃ (u21 : Int), loopN (fun s => impl_OramOK.s0 x0 s) fu u21 = some o22 ∧ Kn [(1, (.pointer (some ⟨b2, 0, none⟩))), (25, (.slice A0_2 x0.Buckets.length p0_2)), (26, (.int .i64 (x0.Buckets.length : Int))), (27, (.int .i64 u21))] 73 a ∧ Sat [] w0 w [(1, k0_0), (2, k0_1), (3, k0_2)] [(4, [(b2, .cells #[.slice A0_0 x0.Pos.length p0_0, .slice A0_1 x0.Stash.length p0_1, .slice A0_2 x0.Buckets.length p0_2] 51 (0, 0))])] := ⟨_, rfl⟩
        refine wp_loop_ghost I26 fu27 ?_ ?_
        · rw [hI26]
          exact ⟨0, h23, (hk.c 1 rfl (hk.c 25 rfl (hk.c 26 rfl (hk.c 27 rfl hk.k)))), (hs.pick [(4, 4)] rfl)⟩
        · clear h23 hk hs
          intro fu27 a w hI0
          rw [hI26] at hI0
          obtain ⟨u21, hi, hk, hs⟩ := hI0
          obtain ⟨x28, H, h29⟩ := loop_round hi
          try dsimp only at H
          unfold impl_OramOK.s0 at H
          apply wp_seq_k; intro K30 hK30
          apply wp_region_lit
          refine sv (.bool (decide (u21 < (x0.Buckets.length : Int)))) hk rfl rfl rfl fun a hk => ?_
          show wpList _ _ _ [] _ _
          refine wpList_nil ?_
          refine hK30 _ _ ?_
          apply wp_seq_k; intro K31 hK31
          rcases cond_some H with ⟨c32, H⟩ | ⟨c32, H⟩
          · have hk := hk.lit 28 c32 rfl
            refine cnd_true hk rfl rfl ?_
            refine wp_skip ?_
            refine hK31 _ _ ?_
            apply wp_seq_k; intro K33 hK33
            refine wp_block ?_
            apply wp_seq_k; intro K34 hK34
            apply wp_region_lit
            refine sm _ rfl hk rfl rfl rfl fun a hk => ?_
            rcases ite_some H with ⟨c35, H⟩ | ⟨_, H⟩
            rotate_left
            · cases H
            obtain ⟨b36, q37, hAc35⟩ := (v0_2).some_ u21 c35.1 c35.2
            refine si rfl hk rfl rfl rfl rfl un49 sz26 c35.1 c35.2 hAc35 fun a hk => ?_
            obtain ⟨_, ⟨_, rfl, A39, p40, rfl, v41⟩, e38⟩ := (v0_2).at_ [] u21 c35.1 c35.2
            refine sl (v := (.slice A39 (x0.Buckets.getD u21.toNat []).length p40)) rfl hk rfl rfl rfl ag26 ((e38 0 _ rfl).cell (hs.hasD (k := 3) rfl)) fun a hk => ?_
            refine salx 7 hs rfl hk rfl rfl ze3 rfl fun b42 w a hk hs => ?_
            refine ssx (cs' := #[.int .i64 u21]) 7 hs rfl rfl hk rfl rfl rfl rfl sz3 rfl rfl rfl rfl fun w a hk hs => ?_
            refine sa _ rfl hk rfl rfl rfl fun a hk => ?_
            show wpList _ _ _ [] _ _
            refine wpList_nil ?_
            refine hK34 _ _ ?_
            apply wp_seq_k; intro K43 hK43
            obtain ⟨o46, h47, HL48⟩ := bind_some H
            clear H
            obtain ⟨R49, hR49⟩ : ∃ R : Act → World → Prop, R = fun a w => ∃ (u45 : Bool), u45 = o46 ∧ Kn [(1, (.pointer (some ⟨b2, 0, none⟩))), (25, (.slice A0_2 x0.Buckets.length p0_2)), (26, (.int .i64 (x0.Buckets.length : Int))), (27, (.int .i64 u21)), (40, (.bool u45))] 73 a ∧ Sat [] w0 w [(1, k0_0), (2, k0_1), (3, k0_2)] [(4, [(b2, .cells #[.slice A0_0 x0.Pos.length p0_0, .slice A0_1 x0.Stash.length p0_1, .slice A0_2 x0.Buckets.length p0_2] 51 (0, 0))])] := ⟨_, rfl⟩
            refine wp_cutq R49 ?_ ?_
            · have H := h47
              apply wp_region_lit
              refine sm _ rfl hk rfl rfl rfl fun a hk => ?_
              refine sle rfl hk rfl rfl rfl un26 fun a hk => ?_
              refine sv (.bool (decide (((x0.Buckets.getD u21.toNat []).length : Int) > 2))) hk rfl rfl rfl fun a hk => ?_
              refine sm _ rfl hk rfl rfl rfl fun a hk => ?_
              rcases cond_some H with ⟨c50, H⟩ | ⟨c50, H⟩
              · have hk := hk.lit 35 c50 rfl
                refine sk hk rfl rfl rfl fun a hk => ?_
                refine sk hk rfl rfl rfl fun a hk => ?_
                refine sk hk rfl rfl rfl fun a hk => ?_
                refine sk hk rfl rfl rfl fun a hk => ?_
                refine sv (.bool true) hk rfl rfl rfl fun a hk => ?_
                show wpList _ _ _ [] _ _
                refine wpList_nil ?_
                obtain rfl := Option.some.inj H
                show R49 _ _
                rw [hR49]
                exact ⟨true, rfl, (hk.c 1 rfl (hk.c 25 rfl (hk.c 26 rfl (hk.c 27 rfl (hk.c 40 rfl hk.k))))), (hs.pick [(4, 4)] rfl)⟩
              · have hk := hk.lit 35 c50 rfl
                refine sm _ rfl hk rfl rfl rfl fun a hk => ?_
                refine smf (cs := [.pointer (some ⟨b42, 0, none⟩)]) rfl hk rfl rfl rfl fun a hk => ?_
                obtain ⟨y51, h52, H⟩ := bind_some H
                refine sc rfl en56 hk rfl rfl rfl (impl_areAll_impl_Block_t _ A39 p40 (x0.Buckets.getD u21.toNat []) _ v41 (hs.hasD (k := 3) rfl) 128 [.pointer (some ⟨b42, 0, none⟩)] en128 (fun z0 => impl_OramOK_c1.f z0 u21) [(b42, .cells #[.int .i64 u21] 3 (0, 0))] (fun w hz z0 r h => impl_OramOK_c1_t w z0 _ u21 hz r h) (hs.hasG (k := 7) rfl) _ h52) ?_
                rintro _ w ⟨rfl, hG⟩ a hk
                have hs := hs.call0 hG
                refine sv (.bool (!y51)) hk rfl rfl rfl fun a hk => ?_
                refine sv (.bool (!y51)) hk rfl rfl rfl fun a hk => ?_
                show wpList _ _ _ [] _ _
                refine wpList_nil ?_
                obtain rfl := Option.some.inj H
                show R49 _ _
                rw [hR49]
                exact ⟨(!y51), rfl, (hk.c 1 rfl (hk.c 25 rfl (hk.c 26 rfl (hk.c 27 rfl (hk.c 40 rfl hk.k))))), (hs.pick [(4, 4)] rfl)⟩
            · intro a w hR0
              rw [hR49] at hR0
              obtain ⟨u45, rfl, hk, hs⟩ := hR0
              have H := HL48
              try dsimp only at H
              refine hK43 _ _ ?_
              rcases cond_some H with ⟨c53, H⟩ | ⟨c53, H⟩
              · have hk := hk.lit 40 c53 rfl
                refine cnd_true hk rfl rfl ?_
                apply wp_seq_k; intro K54 hK54
                apply wp_region_lit
                refine sa _ rfl hk rfl rfl rfl fun a hk => ?_
                show wpList _ _ _ [] _ _
                refine wpList_nil ?_
                refine hK54 _ _ ?_
                refine wp_ret ?_
                obtain rfl := Option.some.inj H
                have ho22 := h29
                try dsimp only at ho22
                subst ho22
                have H := HL24
                try dsimp only at H
                obtain rfl := Option.some.inj H
                exact fin hk _ [(.bool false)] rfl ⟨rfl, trivial⟩ ⟨rfl, (hs.pick [] rfl).dnil⟩
              · have hk := hk.lit 40 c53 rfl
                refine cnd_false hk rfl rfl ?_
                refine wp_skip ?_
                refine hK33 _ _ ?_
                apply wp_region_lit
                refine sv (.int .i64 (w64 (u21 + 1))) hk rfl rfl rfl fun a hk => ?_
                refine sm _ rfl hk rfl rfl rfl fun a hk => ?_
                show wpList _ _ _ [] _ _
                refine wpList_nil ?_
                obtain rfl := Option.some.inj H
                obtain ⟨m55, hmm55, h29⟩ := h29
                show ∃ n', n' < _ ∧ I26 n' _ _
                refine ⟨m55, hmm55, ?_⟩
                rw [hI26]
                exact ⟨(w64 (u21 + 1)), h29, (hk.c 1 rfl (hk.c 25 rfl (hk.c 26 rfl (hk.c 27 rfl hk.k)))), (hs.pick [(4, 4)] rfl)⟩
          · have hk := hk.lit 28 c32 rfl
            refine cnd_false hk rfl rfl ?_
            refine wp_exit ?_
            obtain rfl := Option.some.inj H
            show R25 _ _
            rw [hR25]
            exact ⟨h29.symm, (hk.c 1 rfl hk.k), (hs.pick [(4, 4)] rfl)⟩
      · intro a w hR0
        rw [hR25] at hR0
        obtain ⟨rfl, hk, hs⟩ := hR0
        have H := HL24
        try dsimp only at H
        refine hK17 _ _ ?_
        apply wp_seq_k; intro K56 hK56
        apply wp_region_lit
        refine sala 9 (Lay.bool) (m := 12) (z := false) (zc := [.bool false]) hs rfl hk rfl rfl ze147 (by exact ⟨rfl, rfl⟩) rfl rfl rfl fun b57 k58 w a hk o59 hs => ?_
        have lh60 : (List.replicate 12 (false : Bool)).length = 12 := List.length_replicate
        show wpList _ _ _ [] _ _
        refine wpList_nil ?_
        refine hK56 _ _ ?_
        apply wp_seq_k; intro K61 hK61
        apply wp_seq_k; intro K62 hK62
        apply wp_region_lit
        refine sln [.slice A0_0 x0.Pos.length p0_0, .slice A0_1 x0.Stash.length p0_1, .slice A0_2 x0.Buckets.length p0_2] rfl hk rfl rfl rfl ag51 sz51 (box_cells hs (k := 4) rfl) fun a hk => ?_
        obtain ⟨y63, h64, H⟩ := bind_some H
        refine sc rfl en130 hk rfl rfl rfl (impl_Oram_all_t _ x0 A0_0 p0_0 _ v0_0 (hs.hasD (k := 1) rfl) A0_1 p0_1 _ v0_1 (hs.hasD (k := 2) rfl) A0_2 p0_2 _ v0_2 (hs.hasD (k := 3) rfl) _ h64) ?_
        rintro _ w ⟨A65, p66, k67, rfl, o68, hG⟩ a hk
        have hs := hs.call0k hG [10] rfl
        refine sle rfl hk rfl rfl rfl un26 fun a hk => ?_
        refine sm _ rfl hk rfl rfl rfl fun a hk => ?_
        show wpList _ _ _ [] _ _
        refine wpList_nil ?_
        refine hK62 _ _ ?_
        obtain ⟨o76, h77, HL78⟩ := bind_some H
        clear H
        obtain ⟨R79, hR79⟩ : ∃ R : Act → World → Prop, R = fun a w => o76 = .out () ∧ Kn [] 73 a ∧ Sat [] w0 w [(1, k0_0), (2, k0_1), (3, k0_2)] [] := ⟨_, rfl⟩
        refine wp_cutq R79 ?_ ?_
        · refine wp_block ?_
          obtain ⟨fu81, h77⟩ := loopO_some h77
          obtain ⟨I80, hI80⟩ : ∃ I : Nat → Act → World → Prop, I = fun fu a w => ∃ (u71 : List Bool) (u75 : Int) (k72 : Chunk), loopN (fun s => impl_OramOK.s1 x0 y63 s.1 s.2) fu (u71, u75) = some o76 ∧ Kn [(1, (.pointer (some ⟨b2, 0, none⟩))), (5, (.pointer (some ⟨b57, 0, none⟩))), (43, (.slice A65 y63.length p66)), (44, (.int .i64 (y63.length : Int))), (45, (.int .i64 u75))] 73 a ∧ Sat [] w0 w [(1, k0_0), (2, k0_1), (3, k0_2)] [(9, k72), (10, k67), (4, [(b2, .cells #[.slice A0_0 x0.Pos.length p0_0, .slice A0_1 x0.Stash.length p0_1, .slice A0_2 x0.Buckets.length p0_2] 51 (0, 0))])] ∧ Own Lay.bool 147 (some ⟨b57, 0, none⟩) 12 u71 k72 ∧ u71.length = 12 := ⟨_, rfl⟩
          refine wp_loop_ghost I80 fu81 ?_ ?_
          · rw [hI80]
            exact ⟨(List.replicate 12 (false : Bool)), 0, _, h77, (hk.c 1 rfl (hk.c 5 rfl (hk.c 43 rfl (hk.c 44 rfl (hk.c 45 rfl hk.k))))), (hs.pick [(9, 9), (10, 10), (4, 4)] rfl), o59, lh60⟩
          · clear h77 hk hs
            intro fu81 a w hI0
            rw [hI80] at hI0
            obtain ⟨u71, u75, k72, hi, hk, hs, o73, lh74⟩ := hI0
            obtain ⟨x82, H, h83⟩ := loop_round hi
            try dsimp only at H
            unfold impl_OramOK.s1 at H
            apply wp_seq_k; intro K84 hK84
            apply wp_region_lit
            refine sv (.bool (decide (u75 < (y63.length : Int)))) hk rfl rfl rfl fun a hk => ?_
            show wpList _ _ _ [] _ _
            refine wpList_nil ?_
            refine hK84 _ _ ?_
            apply wp_seq_k; intro K85 hK85
            rcases cond_some H with ⟨c86, H⟩ | ⟨c86, H⟩
            · have hk := hk.lit 46 c86 rfl
              refine cnd_true hk rfl rfl ?_
              refine wp_skip ?_
              refine hK85 _ _ ?_
              apply wp_seq_k; intro K87 hK87
              refine wp_block ?_
              apply wp_seq_k; intro K88 hK88
              apply wp_region_lit
              rcases ite_some H with ⟨c89, H⟩ | ⟨_, H⟩
              rotate_left
              · cases H
              obtain ⟨b90, q91, hAc89⟩ := (o68.view).some_ u75 c89.1 c89.2
              refine si rfl hk rfl rfl rfl rfl un26 sz81 c89.1 c89.2 hAc89 fun a hk => ?_
              obtain ⟨_, rfl, e92⟩ := (o68.view).at_ z_Block u75 c89.1 c89.2
              refine sln [.int .i64 ((y63.getD u75.toNat z_Block).Id), .int .i64 ((y63.getD u75.toNat z_Block).Leaf), .int .i64 ((y63.getD u75.toNat z_Block).Value)] rfl hk rfl rfl rfl ag81 sz81 (cells_at e92 (hs.hasG (k := 10) rfl)) fun a hk => ?_
              refine salx 12 hs rfl hk rfl rfl ze81 rfl fun b93 w a hk hs => ?_
              refine ssw 12 hs rfl rfl hk rfl rfl rfl rfl sz81 (by simp [Value.oneCell']) rfl fun w a hk hs => ?_
              show wpList _ _ _ [] _ _
              refine wpList_nil ?_
              refine hK88 _ _ ?_
              apply wp_seq_k; intro K94 hK94
              apply wp_seq_k; intro K95 hK95
              obtain ⟨o98, h99, HL100⟩ := bind_some H
              clear H
              obtain ⟨R101, hR101⟩ : ∃ R : Act → World → Prop, R = fun a w => ∃ (u97 : Bool), u97 = o98 ∧ Kn [(1, (.pointer (some ⟨b2, 0, none⟩))), (5, (.pointer (some ⟨b57, 0, none⟩))), (7, (.pointer (some ⟨b93, 0, none⟩))), (43, (.slice A65 y63.length p66)), (44, (.int .i64 (y63.length : Int))), (45, (.int .i64 u75)), (68, (.bool u97))] 73 a ∧ Sat [] w0 w [(1, k0_0), (2, k0_1), (3, k0_2)] [(9, k72), (10, k67), (4, [(b2, .cells #[.slice A0_0 x0.Pos.length p0_0, .slice A0_1 x0.Stash.length p0_1, .slice A0_2 x0.Buckets.length p0_2] 51 (0, 0))]), (12, [(b93, .cells #[.int .i64 ((y63.getD u75.toNat z_Block).Id), .int .i64 ((y63.getD u75.toNat z_Block).Leaf), .int .i64 ((y63.getD u75.toNat z_Block).Value)] 81 (0, 0))])] := ⟨_, rfl⟩
              refine wp_cutq R101 ?_ ?_
              · have H := h99
                refine wp_region_mix [(0, true), (1, true), (2, true), (3, true), (4, true), (5, true), (6, true), (7, true), (8, true), (9, true), (10, true), (11, true), (12, true), (13, true), (14, true), (15, true), (16, true), (17, true), (18, true), (19, true)] mo (by kernel_rfl) hs fun _ => ?_
                have hs := hs.drew
                refine qst (.agg #[.int .i64 ((y63.getD u75.toNat z_Block).Id), .int .i64 ((y63.getD u75.toNat z_Block).Leaf), .int .i64 ((y63.getD u75.toNat z_Block).Value)]) hk rfl rfl rfl rfl (fun w hs => sln [.int .i64 ((y63.getD u75.toNat z_Block).Id), .int .i64 ((y63.getD u75.toNat z_Block).Leaf), .int .i64 ((y63.getD u75.toNat z_Block).Value)] rfl hk rfl rfl rfl ag81 sz81 (box_cells hs (k := 12) rfl) fun a hk => qe hk) fun a hk => ?_
                obtain ⟨y102, h103, H⟩ := bind_some H
                refine qst (.bool y102) hk rfl rfl rfl rfl (fun w hs => sc rfl en57 hk rfl rfl rfl (impl_isBlock_t _ (y63.getD u75.toNat z_Block) _ h103) fun _ w hR a hk => qc hR hk) fun a hk => ?_
                refine qst (.bool (!y102)) hk rfl rfl rfl rfl (fun w hs => sv (.bool (!y102)) hk rfl rfl rfl fun a hk => qe hk) fun a hk => ?_
                refine qst (.bool (!y102)) hk rfl rfl rfl rfl (fun w hs => sm _ rfl hk rfl rfl rfl fun a hk => qe hk) fun a hk => ?_
                rcases cond_some H with ⟨c104, H⟩ | ⟨c104, H⟩
                · have hk := hk.lit 52 c104 rfl
                  refine qsk hk rfl rfl rfl rfl fun a hk => ?_
                  refine qsk hk rfl rfl rfl rfl fun a hk => ?_
                  refine qsk hk rfl rfl rfl rfl fun a hk => ?_
                  refine qsk hk rfl rfl rfl rfl fun a hk => ?_
                  refine qsk hk rfl rfl rfl rfl fun a hk => ?_
                  refine qsk hk rfl rfl rfl rfl fun a hk => ?_
                  refine qsk hk rfl rfl rfl rfl fun a hk => ?_
                  refine qsk hk rfl rfl rfl rfl fun a hk => ?_
                  refine qsk hk rfl rfl rfl rfl fun a hk => ?_
                  refine qst (.bool true) hk rfl rfl rfl rfl (fun w hs => sv (.bool true) hk rfl rfl rfl fun a hk => qe hk) fun a hk => ?_
                  refine qst (.bool true) hk rfl rfl rfl rfl (fun w hs => sm _ rfl hk rfl rfl rfl fun a hk => qe hk) fun a hk => ?_
                  refine qsk hk rfl rfl rfl rfl fun a hk => ?_
                  refine qsk hk rfl rfl rfl rfl fun a hk => ?_
                  refine qsk hk rfl rfl rfl rfl fun a hk => ?_
                  refine qsk hk rfl rfl rfl rfl fun a hk => ?_
                  refine qst (.bool true) hk rfl rfl rfl rfl (fun w hs => sv (.bool true) hk rfl rfl rfl fun a hk => qe hk) fun a hk => ?_
                  refine wml_nil fun w hF _ => ?_
                  have hs := hs.f hF
                  obtain rfl := Option.some.inj H
                  show R101 _ _
                  rw [hR101]
                  exact ⟨true, rfl, (hk.c 1 rfl (hk.c 5 rfl (hk.c 7 rfl (hk.c 43 rfl (hk.c 44 rfl (hk.c 45 rfl (hk.c 68 rfl hk.k))))))), (hs.pick [(9, 9), (10, 10), (4, 4), (12, 12)] rfl)⟩
                · have hk := hk.lit 52 c104 rfl
                  refine qst (.pointer (some ⟨b93, 1, none⟩)) hk rfl rfl rfl rfl (fun w hs => sf ⟨b93, 1, none⟩ rfl hk rfl rfl rfl fd81_1 rfl fun a hk => qe hk) fun a hk => ?_
                  refine qst (.int .i64 ((y63.getD u75.toNat z_Block).Leaf)) hk rfl rfl rfl rfl (fun w hs => sl rfl hk rfl rfl rfl ag3 (box_cell hs (k := 12) rfl rfl) fun a hk => qe hk) fun a hk => ?_
                  refine qst (.pointer (some ⟨b2, 0, none⟩)) hk rfl rfl rfl rfl (fun w hs => sf ⟨b2, 0, none⟩ rfl hk rfl rfl rfl fd51_0 rfl fun a hk => qe hk) fun a hk => ?_
                  refine qst (.slice A0_0 x0.Pos.length p0_0) hk rfl rfl rfl rfl (fun w hs => sl rfl hk rfl rfl rfl ag31 (box_cell hs (k := 4) rfl rfl) fun a hk => qe hk) fun a hk => ?_
                  refine qst (.pointer (some ⟨b93, 0, none⟩)) hk rfl rfl rfl rfl (fun w hs => sf ⟨b93, 0, none⟩ rfl hk rfl rfl rfl fd81_0 rfl fun a hk => qe hk) fun a hk => ?_
                  refine qst (.int .i64 ((y63.getD u75.toNat z_Block).Id)) hk rfl rfl rfl rfl (fun w hs => sl rfl hk rfl rfl rfl ag3 (box_cell hs (k := 12) rfl rfl) fun a hk => qe hk) fun a hk => ?_
                  rcases ite_some H with ⟨c105, H⟩ | ⟨_, H⟩
                  rotate_left
                  · cases H
                  obtain ⟨b106, q107, hAc105⟩ := (v0_0).some_ ((y63.getD u75.toNat z_Block).Id) c105.1 c105.2
                  refine qst (.pointer (some (padd A0_0 (((y63.getD u75.toNat z_Block).Id).toNat * 1)))) hk rfl rfl rfl rfl (fun w hs => si rfl hk rfl rfl rfl rfl un31 sz3 c105.1 c105.2 hAc105 fun a hk => qe hk) fun a hk => ?_
                  obtain ⟨_, rfl, e108⟩ := (v0_0).at_ 0 ((y63.getD u75.toNat z_Block).Id) c105.1 c105.2
                  refine qst (.int .i64 (x0.Pos.getD ((y63.getD u75.toNat z_Block).Id).toNat 0)) hk rfl rfl rfl rfl (fun w hs => sl (v := (.int .i64 (x0.Pos.getD ((y63.getD u75.toNat z_Block).Id).toNat 0))) rfl hk rfl rfl rfl ag3 ((e108 0 _ rfl).cell (hs.hasD (k := 1) rfl)) fun a hk => qe hk) fun a hk => ?_
                  refine qst (.bool (((y63.getD u75.toNat z_Block).Leaf) != (x0.Pos.getD ((y63.getD u75.toNat z_Block).Id).toNat 0))) hk rfl rfl rfl rfl (fun w hs => sv (.bool (((y63.getD u75.toNat z_Block).Leaf) != (x0.Pos.getD ((y63.getD u75.toNat z_Block).Id).toNat 0))) hk rfl rfl rfl fun a hk => qe hk) fun a hk => ?_
                  refine qst (.bool (((y63.getD u75.toNat z_Block).Leaf) != (x0.Pos.getD ((y63.getD u75.toNat z_Block).Id).toNat 0))) hk rfl rfl rfl rfl (fun w hs => sv (.bool (((y63.getD u75.toNat z_Block).Leaf) != (x0.Pos.getD ((y63.getD u75.toNat z_Block).Id).toNat 0))) hk rfl rfl rfl fun a hk => qe hk) fun a hk => ?_
                  refine qst (.bool (((y63.getD u75.toNat z_Block).Leaf) != (x0.Pos.getD ((y63.getD u75.toNat z_Block).Id).toNat 0))) hk rfl rfl rfl rfl (fun w hs => sm _ rfl hk rfl rfl rfl fun a hk => qe hk) fun a hk => ?_
                  rcases cond_some H with ⟨c109, H⟩ | ⟨c109, H⟩
                  · have hk := hk.lit 63 c109 rfl
                    refine qsk hk rfl rfl rfl rfl fun a hk => ?_
                    refine qsk hk rfl rfl rfl rfl fun a hk => ?_
                    refine qsk hk rfl rfl rfl rfl fun a hk => ?_
                    refine qsk hk rfl rfl rfl rfl fun a hk => ?_
                    refine qst (.bool true) hk rfl rfl rfl rfl (fun w hs => sv (.bool true) hk rfl rfl rfl fun a hk => qe hk) fun a hk => ?_
                    refine wml_nil fun w hF _ => ?_
                    have hs := hs.f hF
                    obtain rfl := Option.some.inj H
                    show R101 _ _
                    rw [hR101]
                    exact ⟨true, rfl, (hk.c 1 rfl (hk.c 5 rfl (hk.c 7 rfl (hk.c 43 rfl (hk.c 44 rfl (hk.c 45 rfl (hk.c 68 rfl hk.k))))))), (hs.pick [(9, 9), (10, 10), (4, 4), (12, 12)] rfl)⟩
                  · have hk := hk.lit 63 c109 rfl
                    refine qst (.pointer (some ⟨b93, 0, none⟩)) hk rfl rfl rfl rfl (fun w hs => sf ⟨b93, 0, none⟩ rfl hk rfl rfl rfl fd81_0 rfl fun a hk => qe hk) fun a hk => ?_
                    refine qst (.int .i64 ((y63.getD u75.toNat z_Block).Id)) hk rfl rfl rfl rfl (fun w hs => sl rfl hk rfl rfl rfl ag3 (box_cell hs (k := 12) rfl rfl) fun a hk => qe hk) fun a hk => ?_
                    rcases ite_some H with ⟨c110, H⟩ | ⟨_, H⟩
                    rotate_left
                    · cases H
                    obtain ⟨b111, q112, hAc110⟩ := (o73.view).some_ ((y63.getD u75.toNat z_Block).Id) c110.1 (by rw [lh74]; exact c110.2)
                    refine qst (.pointer (some (padd (some ⟨b57, 0, none⟩) (((y63.getD u75.toNat z_Block).Id).toNat * 1)))) hk rfl rfl rfl rfl (fun w hs => sia rfl hk rfl rfl rfl rfl un147 sz4 c110.1 c110.2 hAc110 fun a hk => qe hk) fun a hk => ?_
                    obtain ⟨_, rfl, e113⟩ := (o73.view).at_ false ((y63.getD u75.toNat z_Block).Id) c110.1 (by rw [lh74]; exact c110.2)
                    refine qst (.bool (u71.getD ((y63.getD u75.toNat z_Block).Id).toNat false)) hk rfl rfl rfl rfl (fun w hs => sl (v := (.bool (u71.getD ((y63.getD u75.toNat z_Block).Id).toNat false))) rfl hk rfl rfl rfl ag4 ((e113 0 _ rfl).cell (hs.hasG (k := 9) rfl)) fun a hk => qe hk) fun a hk => ?_
                    refine qst (.bool (u71.getD ((y63.getD u75.toNat z_Block).Id).toNat false)) hk rfl rfl rfl rfl (fun w hs => sv (.bool (u71.getD ((y63.getD u75.toNat z_Block).Id).toNat false)) hk rfl rfl rfl fun a hk => qe hk) fun a hk => ?_
                    refine wml_nil fun w hF _ => ?_
                    have hs := hs.f hF
                    obtain rfl := Option.some.inj H
                    show R101 _ _
                    rw [hR101]
                    exact ⟨(u71.getD ((y63.getD u75.toNat z_Block).Id).toNat false), rfl, (hk.c 1 rfl (hk.c 5 rfl (hk.c 7 rfl (hk.c 43 rfl (hk.c 44 rfl (hk.c 45 rfl (hk.c 68 rfl hk.k))))))), (hs.pick [(9, 9), (10, 10), (4, 4), (12, 12)] rfl)⟩
              · intro a w hR0
                rw [hR101] at hR0
                obtain ⟨u97, rfl, hk, hs⟩ := hR0
                have H := HL100
                try dsimp only at H
                refine hK95 _ _ ?_
                rcases cond_some H with ⟨c114, H⟩ | ⟨c114, H⟩
                · have hk := hk.lit 68 c114 rfl
                  refine cnd_true hk rfl rfl ?_
                  apply wp_seq_k; intro K115 hK115
                  apply wp_region_lit
                  refine sa _ rfl hk rfl rfl rfl fun a hk => ?_
                  show wpList _ _ _ [] _ _
                  refine wpList_nil ?_
                  refine hK115 _ _ ?_
                  refine wp_ret ?_
                  obtain rfl := Option.some.inj H
                  have ho76 := h83
                  try dsimp only at ho76
                  subst ho76
                  have H := HL78
                  try dsimp only at H
                  obtain rfl := Option.some.inj H
                  exact fin hk _ [(.bool false)] rfl ⟨rfl, trivial⟩ ⟨rfl, (hs.pick [] rfl).dnil⟩
                · have hk := hk.lit 68 c114 rfl
                  refine cnd_false hk rfl rfl ?_
                  refine wp_skip ?_
                  refine hK94 _ _ ?_
                  apply wp_region_lit
                  refine sf ⟨b93, 0, none⟩ rfl hk rfl rfl rfl fd81_0 rfl fun a hk => ?_
                  refine sl rfl hk rfl rfl rfl ag3 (box_cell hs (k := 12) rfl rfl) fun a hk => ?_
                  rcases ite_some H with ⟨c116, H⟩ | ⟨_, H⟩
                  rotate_left
                  · cases H
                  obtain ⟨b117, q118, hAc116⟩ := (o73.view).some_ ((y63.getD u75.toNat z_Block).Id) c116.1 (by rw [lh74]; exact c116.2)
                  refine sia rfl hk rfl rfl rfl rfl un147 sz4 c116.1 c116.2 hAc116 fun a hk => ?_
                  refine so (j := 0) 9 false true hs rfl o73 c116.1 (by rw [lh74]; exact c116.2) rfl hk rfl rfl rfl rfl rfl sz4 (by simp [Value.cells, Value.oneCell']) (Nat.le_of_ble_eq_true rfl) (fun _ _ h => ⟨by rw [h.1]; rfl, h.2⟩) fun k119 w a hk o120 hs => ?_
                  have lh121 : (u71.set ((y63.getD u75.toNat z_Block).Id).toNat true).length = 12 := by rw [List.length_set]; exact lh74
                  show wpList _ _ _ [] _ _
                  refine wpList_nil ?_
                  refine hK87 _ _ ?_
                  apply wp_region_lit
                  refine sv (.int .i64 (w64 (u75 + 1))) hk rfl rfl rfl fun a hk => ?_
                  refine sm _ rfl hk rfl rfl rfl fun a hk => ?_
                  show wpList _ _ _ [] _ _
                  refine wpList_nil ?_
                  obtain rfl := Option.some.inj H
                  obtain ⟨m122, hmm122, h83⟩ := h83
                  show ∃ n', n' < _ ∧ I80 n' _ _
                  refine ⟨m122, hmm122, ?_⟩
                  rw [hI80]
                  exact ⟨(u71.set ((y63.getD u75.toNat z_Block).Id).toNat true), (w64 (u75 + 1)), _, h83, (hk.c 1 rfl (hk.c 5 rfl (hk.c 43 rfl (hk.c 44 rfl (hk.c 45 rfl hk.k))))), (hs.pick [(9, 9), (10, 10), (4, 4)] rfl), o120, lh121⟩
            · have hk := hk.lit 46 c86 rfl
              refine cnd_false hk rfl rfl ?_
              refine wp_exit ?_
              obtain rfl := Option.some.inj H
              show R79 _ _
              rw [hR79]
              exact ⟨h83.symm, hk.k, (hs.pick [] rfl)⟩
        · intro a w hR0
          rw [hR79] at hR0
          obtain ⟨rfl, hk, hs⟩ := hR0
          have H := HL78
          try dsimp only at H
          refine hK61 _ _ ?_
          apply wp_seq_k; intro K123 hK123
          apply wp_region_lit
          refine sa _ rfl hk rfl rfl rfl fun a hk => ?_
          show wpList _ _ _ [] _ _
          refine wpList_nil ?_
          refine hK123 _ _ ?_
          refine wp_ret ?_
          obtain rfl := Option.some.inj H
          exact fin hk _ [(.bool true)] rfl ⟨rfl, trivial⟩ ⟨rfl, (hs.pick [] rfl).dnil⟩

noncomputable def impl_EncOK.s0 (x0 : S_Enc) (u11 : Int) (u17 : List Int) : Option ((Int × (List Int)) ⊕ Ex (Unit) (Bool)) :=
  (bif (decide (u11 < (x0.Keys.length : Int))) then (if 0 ≤ u11 ∧ u11 < (x0.Keys.length : Int) then (bif ((x0.Keys.getD u11.toNat 0) == 0) then (some (.inl ((w64 (u11 + 1)), u17))) else ((((impl_isKey.f (x0.Keys.getD u11.toNat 0)).bind fun y51 => (bif (!y51) then (some true) else (some (u17.contains (x0.Keys.getD u11.toNat 0))))) : Option (Bool)).bind fun u46 => (bif u46 then (some (.inr (.ret false))) else (some (.inl ((w64 (u11 + 1)), (if u17.contains (x0.Keys.getD u11.toNat 0) then u17 else u17 ++ [(x0.Keys.getD u11.toNat 0)]))))))) else none) else (some (.inr (.out ()))))
noncomputable def impl_EncOK.f (x0 : S_Enc) : Option (Bool) :=
  ((loopO (fun s => impl_EncOK.s0 x0 s.1 s.2) (0, ([] : List Int))).bind fun o => match o with | .out _ => (((bif ((x0.Keys.length : Int) == 11) then ((impl_OramOK.f x0.Oram).bind fun y67 => (some y67)) else (some false)) : Option (Bool)).bind fun u61 => (some u61)) | .ret r => (some r))
set_option maxRecDepth 100000 in
set_option maxHeartbeats 0 in
theorem impl_EncOK_t (w0 : World) (x0 : S_Enc) (A0_0 : Option Addr) (p0_0 : Nat) (k0_0 : Chunk) (v0_0 : View (Lay.int .i64) A0_0 p0_0 x0.Keys k0_0) (w0_0 : Has w0 k0_0) (A0_1 : Option Addr) (p0_1 : Nat) (k0_1 : Chunk) (v0_1 : View (Lay.int .i64) A0_1 p0_1 x0.Oram.Pos k0_1) (w0_1 : Has w0 k0_1) (A0_2 : Option Addr) (p0_2 : Nat) (k0_2 : Chunk) (v0_2 : View L_Block A0_2 p0_2 x0.Oram.Stash k0_2) (w0_2 : Has w0 k0_2) (A0_3 : Option Addr) (p0_3 : Nat) (k0_3 : Chunk) (v0_3 : View (Lay.sl L_Block 81) A0_3 p0_3 x0.Oram.Buckets k0_3) (w0_3 : Has w0 k0_3) (r : Bool) (H : impl_EncOK.f x0 = some r) :
    Calls Try.prog 32 #[.agg #[.slice A0_0 x0.Keys.length p0_0, .slice A0_1 x0.Oram.Pos.length p0_1, .slice A0_2 x0.Oram.Stash.length p0_2, .slice A0_3 x0.Oram.Buckets.length p0_3]] w0 (Ret (fun v w => v = .bool r ∧ Sat [] w0 w [] [])) := by
  have hs : Sat [] w0 w0 [(1, k0_0), (2, k0_1), (3, k0_2), (4, k0_3)] [] := Sat.init w0 [(1, k0_0), (2, k0_1), (3, k0_2), (4, k0_3)] [] (by simp only [List.mem_cons, List.not_mem_nil, or_false]; rintro x (rfl | rfl | rfl | rfl) <;> assumption) (by simp) List.nodup_nil (by simp [blks])
  unfold impl_EncOK.f at H
  refine enter Try.func32 rfl Try.ntmps32 rfl fun a hk => ?_
  apply wp_seq_k; intro K1 hK1
  apply wp_region_lit
  refine sbx 5 hs rfl hk rfl rfl rfl rfl fun b2 w a hk hs => ?_
  refine sa _ rfl hk rfl rfl rfl fun a hk => ?_
  show wpList _ _ _ [] _ _
  refine wpList_nil ?_
  refine hK1 _ _ ?_
  apply wp_seq_k; intro K3 hK3
  apply wp_region_lit
  refine smm 6 (t := 112) (L := Lay.int .i64) (E := 3) hs rfl hk rfl rfl fun b4 k5 w a hk o6 hs => ?_
  refine sa _ rfl hk rfl rfl rfl fun a hk => ?_
  show wpList _ _ _ [] _ _
  refine wpList_nil ?_
  refine hK3 _ _ ?_
  apply wp_seq_k; intro K7 hK7
  apply wp_seq_k; intro K8 hK8
  apply wp_region_lit
  refine sf ⟨b2, 0, none⟩ rfl hk rfl rfl rfl fd53_0 rfl fun a hk => ?_
  refine sl rfl hk rfl rfl rfl ag31 (box_cell hs (k := 5) rfl rfl) fun a hk => ?_
  refine sle rfl hk rfl rfl rfl un31 fun a hk => ?_
  refine sm _ rfl hk rfl rfl rfl fun a hk => ?_
  show wpList _ _ _ [] _ _
  refine wpList_nil ?_
  refine hK8 _ _ ?_
  obtain ⟨o22, h23, HL24⟩ := bind_some H
  clear H
  obtain ⟨R25, hR25⟩ : ∃ R : Act → World → Prop, R = fun a w => o22 = .out () ∧ Kn [(1, (.pointer (some ⟨b2, 0, none⟩)))] 36 a ∧ Sat [] w0 w [(1, k0_0), (2, k0_1), (3, k0_2), (4, k0_3)] [(5, [(b2, .cells #[.slice A0_0 x0.Keys.length p0_0, .slice A0_1 x0.Oram.Pos.length p0_1, .slice A0_2 x0.Oram.Stash.length p0_2, .slice A0_3 x0.Oram.Buckets.length p0_3] 53 (0, 0))])] := ⟨_, rfl⟩
  refine wp_cutq R25 ?_ ?_
  · refine wp_block ?_
    obtain ⟨fu27, h23⟩ := loopO_some h23
    obtain ⟨I26, hI26⟩ : ∃ I : Nat → Act → World → Prop, I = fun fu a w => ∃ (u11 : Int) (u17 : List Int) (A20 : Option Addr) (p21 : Nat) (k18 : Chunk), loopN (fun s => impl_EncOK.s0 x0 s.1 s.2) fu (u11, u17) = some o22 ∧ Kn [(1, (.pointer (some ⟨b2, 0, none⟩))), (3, (.map (mref A20))), (8, (.slice A0_0 x0.Keys.length p0_0)), (9, (.int .i64 (x0.Keys.length : Int))), (10, (.int .i64 u11))] 36 a ∧ Sat [] w0 w [(1, k0_0), (2, k0_1), (3, k0_2), (4, k0_3)] [(6, k18), (5, [(b2, .cells #[.slice A0_0 x0.Keys.length p0_0, .slice A0_1 x0.Oram.Pos.length p0_1, .slice A0_2 x0.Oram.Stash.length p0_2, .slice A0_3 x0.Oram.Buckets.length p0_3] 53 (0, 0))])] ∧ OwnK (Lay.int .i64) 3 A20 p21 u17 k18 := ⟨_, rfl⟩
    refine wp_loop_ghost I26 fu27 ?_ ?_
    · rw [hI26]
      exact ⟨0, ([] : List Int), (some ⟨b4, 0, none⟩), 0, _, h23, (hk.c 1 rfl (hk.c 3 rfl (hk.c 8 rfl (hk.c 9 rfl (hk.c 10 rfl hk.k))))), (hs.pick [(6, 6), (5, 5)] rfl), o6⟩
    · clear h23 hk hs
      intro fu27 a w hI0
      rw [hI26] at hI0
      obtain ⟨u11, u17, A20, p21, k18, hi, hk, hs, o19⟩ := hI0
      obtain ⟨x28, H, h29⟩ := loop_round hi
      try dsimp only at H
      unfold impl_EncOK.s0 at H
      apply wp_seq_k; intro K30 hK30
      apply wp_region_lit
      refine sv (.bool (decide (u11 < (x0.Keys.length : Int)))) hk rfl rfl rfl fun a hk => ?_
      show wpList _ _ _ [] _ _
      refine wpList_nil ?_
      refine hK30 _ _ ?_
      apply wp_seq_k; intro K31 hK31
      rcases cond_some H with ⟨c32, H⟩ | ⟨c32, H⟩
      · have hk := hk.lit 11 c32 rfl
        refine cnd_true hk rfl rfl ?_
        refine wp_skip ?_
        refine hK31 _ _ ?_
        apply wp_seq_k; intro K33 hK33
        refine wp_block ?_
        apply wp_seq_k; intro K34 hK34
        apply wp_region_lit
        rcases ite_some H with ⟨c35, H⟩ | ⟨_, H⟩
        rotate_left
        · cases H
        obtain ⟨b36, q37, hAc35⟩ := (v0_0).some_ u11 c35.1 c35.2
        refine si rfl hk rfl rfl rfl rfl un31 sz3 c35.1 c35.2 hAc35 fun a hk => ?_
        obtain ⟨_, rfl, e38⟩ := (v0_0).at_ 0 u11 c35.1 c35.2
        refine sl (v := (.int .i64 (x0.Keys.getD u11.toNat 0))) rfl hk rfl rfl rfl ag3 ((e38 0 _ rfl).cell (hs.hasD (k := 1) rfl)) fun a hk => ?_
        refine sa _ rfl hk rfl rfl rfl fun a hk => ?_
        show wpList _ _ _ [] _ _
        refine wpList_nil ?_
        refine hK34 _ _ ?_
        apply wp_seq_k; intro K39 hK39
        apply wp_seq_k; intro K40 hK40
        apply wp_region_lit
        refine sm _ rfl hk rfl rfl rfl fun a hk => ?_
        refine sv (.bool ((x0.Keys.getD u11.toNat 0) == 0)) hk rfl rfl rfl fun a hk => ?_
        show wpList _ _ _ [] _ _
        refine wpList_nil ?_
        refine hK40 _ _ ?_
        rcases cond_some H with ⟨c41, H⟩ | ⟨c41, H⟩
        · have hk := hk.lit 15 c41 rfl
          refine cnd_true hk rfl rfl ?_
          refine wp_exit ?_
          refine hK33 _ _ ?_
          apply wp_region_lit
          refine sv (.int .i64 (w64 (u11 + 1))) hk rfl rfl rfl fun a hk => ?_
          refine sm _ rfl hk rfl rfl rfl fun a hk => ?_
          show wpList _ _ _ [] _ _
          refine wpList_nil ?_
          obtain rfl := Option.some.inj H
          obtain ⟨m42, hmm42, h29⟩ := h29
          show ∃ n', n' < _ ∧ I26 n' _ _
          refine ⟨m42, hmm42, ?_⟩
          rw [hI26]
          exact ⟨(w64 (u11 + 1)), u17, A20, p21, _, h29, (hk.c 1 rfl (hk.c 3 rfl (hk.c 8 rfl (hk.c 9 rfl (hk.c 10 rfl hk.k))))), (hs.pick [(6, 6), (5, 5)] rfl), o19⟩
        · have hk := hk.lit 15 c41 rfl
          refine cnd_false hk rfl rfl ?_
          refine wp_skip ?_
          refine hK39 _ _ ?_
          apply wp_seq_k; intro K43 hK43
          apply wp_seq_k; intro K44 hK44
          obtain ⟨o47, h48, HL49⟩ := bind_some H
          clear H
          obtain ⟨R50, hR50⟩ : ∃ R : Act → World → Prop, R = fun a w => ∃ (u46 : Bool), u46 = o47 ∧ Kn [(1, (.pointer (some ⟨b2, 0, none⟩))), (3, (.map (mref A20))), (5, (.int .i64 (x0.Keys.getD u11.toNat 0))), (8, (.slice A0_0 x0.Keys.length p0_0)), (9, (.int .i64 (x0.Keys.length : Int))), (10, (.int .i64 u11)), (23, (.bool u46))] 36 a ∧ Sat [] w0 w [(1, k0_0), (2, k0_1), (3, k0_2), (4, k0_3)] [(6, k18), (5, [(b2, .cells #[.slice A0_0 x0.Keys.length p0_0, .slice A0_1 x0.Oram.Pos.length p0_1, .slice A0_2 x0.Oram.Stash.length p0_2, .slice A0_3 x0.Oram.Buckets.length p0_3] 53 (0, 0))])] := ⟨_, rfl⟩
          refine wp_cutq R50 ?_ ?_
          · have H := h48
            apply wp_region_lit
            refine sm _ rfl hk rfl rfl rfl fun a hk => ?_
            obtain ⟨y51, h52, H⟩ := bind_some H
            refine sc rfl en83 hk rfl rfl rfl (impl_isKey_t _ (x0.Keys.getD u11.toNat 0) _ h52) ?_
            rintro _ w ⟨rfl, hG⟩ a hk
            have hs := hs.call0 hG
            refine sv (.bool (!y51)) hk rfl rfl rfl fun a hk => ?_
            refine sm _ rfl hk rfl rfl rfl fun a hk => ?_
            rcases cond_some H with ⟨c53, H⟩ | ⟨c53, H⟩
            · have hk := hk.lit 19 c53 rfl
              refine sk hk rfl rfl rfl fun a hk => ?_
              refine sk hk rfl rfl rfl fun a hk => ?_
              refine sk hk rfl rfl rfl fun a hk => ?_
              refine sv (.bool true) hk rfl rfl rfl fun a hk => ?_
              show wpList _ _ _ [] _ _
              refine wpList_nil ?_
              obtain rfl := Option.some.inj H
              show R50 _ _
              rw [hR50]
              exact ⟨true, rfl, (hk.c 1 rfl (hk.c 3 rfl (hk.c 5 rfl (hk.c 8 rfl (hk.c 9 rfl (hk.c 10 rfl (hk.c 23 rfl hk.k))))))), (hs.pick [(6, 6), (5, 5)] rfl)⟩
            · have hk := hk.lit 19 c53 rfl
              refine sm _ rfl hk rfl rfl rfl fun a hk => ?_
              refine sm _ rfl hk rfl rfl rfl fun a hk => ?_
              refine slk 6 (xs := u17) hs rfl o19 rfl hk rfl rfl rfl rfl un112 un3 ze4 fun a hk => ?_
              refine sv (.bool (u17.contains (x0.Keys.getD u11.toNat 0))) hk rfl rfl rfl fun a hk => ?_
              show wpList _ _ _ [] _ _
              refine wpList_nil ?_
              obtain rfl := Option.some.inj H
              show R50 _ _
              rw [hR50]
              exact ⟨(u17.contains (x0.Keys.getD u11.toNat 0)), rfl, (hk.c 1 rfl (hk.c 3 rfl (hk.c 5 rfl (hk.c 8 rfl (hk.c 9 rfl (hk.c 10 rfl (hk.c 23 rfl hk.k))))))), (hs.pick [(6, 6), (5, 5)] rfl)⟩
          · intro a w hR0
            rw [hR50] at hR0
            obtain ⟨u46, rfl, hk, hs⟩ := hR0
            have H := HL49
            try dsimp only at H
            refine hK44 _ _ ?_
            rcases cond_some H with ⟨c54, H⟩ | ⟨c54, H⟩
            · have hk := hk.lit 23 c54 rfl
              refine cnd_true hk rfl rfl ?_
              apply wp_seq_k; intro K55 hK55
              apply wp_region_lit
              refine sa _ rfl hk rfl rfl rfl fun a hk => ?_
              show wpList _ _ _ [] _ _
              refine wpList_nil ?_
              refine hK55 _ _ ?_
              refine wp_ret ?_
              obtain rfl := Option.some.inj H
              have ho22 := h29
              try dsimp only at ho22
              subst ho22
              have H := HL24
              try dsimp only at H
              obtain rfl := Option.some.inj H
              exact fin hk _ [(.bool false)] rfl ⟨rfl, trivial⟩ ⟨rfl, (hs.pick [] rfl).dnil⟩
            · have hk := hk.lit 23 c54 rfl
              refine cnd_false hk rfl rfl ?_
              refine wp_skip ?_
              refine hK43 _ _ ?_
              apply wp_region_lit
              refine sm _ rfl hk rfl rfl rfl fun a hk => ?_
              refine sm _ rfl hk rfl rfl rfl fun a hk => ?_
              refine smu 6 (xs := u17) hs rfl o19 rfl hk rfl rfl rfl rfl rfl un112 un3 fun k56 w a hk o57 hs => ?_
              show wpList _ _ _ [] _ _
              refine wpList_nil ?_
              refine hK33 _ _ ?_
              apply wp_region_lit
              refine sv (.int .i64 (w64 (u11 + 1))) hk rfl rfl rfl fun a hk => ?_
              refine sm _ rfl hk rfl rfl rfl fun a hk => ?_
              show wpList _ _ _ [] _ _
              refine wpList_nil ?_
              obtain rfl := Option.some.inj H
              obtain ⟨m58, hmm58, h29⟩ := h29
              show ∃ n', n' < _ ∧ I26 n' _ _
              refine ⟨m58, hmm58, ?_⟩
              rw [hI26]
              exact ⟨(w64 (u11 + 1)), (if u17.contains (x0.Keys.getD u11.toNat 0) then u17 else u17 ++ [(x0.Keys.getD u11.toNat 0)]), A20, p21, _, h29, (hk.c 1 rfl (hk.c 3 rfl (hk.c 8 rfl (hk.c 9 rfl (hk.c 10 rfl hk.k))))), (hs.pick [(6, 6), (5, 5)] rfl), o57⟩
      · have hk := hk.lit 11 c32 rfl
        refine cnd_false hk rfl rfl ?_
        refine wp_exit ?_
        obtain rfl := Option.some.inj H
        show R25 _ _
        rw [hR25]
        exact ⟨h29.symm, (hk.c 1 rfl hk.k), (hs.pick [(5, 5)] rfl)⟩
  · intro a w hR0
    rw [hR25] at hR0
    obtain ⟨rfl, hk, hs⟩ := hR0
    have H := HL24
    try dsimp only at H
    refine hK7 _ _ ?_
    apply wp_seq_k; intro K59 hK59
    obtain ⟨o62, h63, HL64⟩ := bind_some H
    clear H
    obtain ⟨R65, hR65⟩ : ∃ R : Act → World → Prop, R = fun a w => ∃ (u61 : Bool), u61 = o62 ∧ Kn [(2, (.bool u61))] 36 a ∧ Sat [] w0 w [(1, k0_0), (2, k0_1), (3, k0_2), (4, k0_3)] [] := ⟨_, rfl⟩
    refine wp_cutq R65 ?_ ?_
    · have H := h63
      apply wp_region_lit
      refine sf ⟨b2, 0, none⟩ rfl hk rfl rfl rfl fd53_0 rfl fun a hk => ?_
      refine sl rfl hk rfl rfl rfl ag31 (box_cell hs (k := 5) rfl rfl) fun a hk => ?_
      refine sle rfl hk rfl rfl rfl un31 fun a hk => ?_
      refine sv (.bool ((x0.Keys.length : Int) == 11)) hk rfl rfl rfl fun a hk => ?_
      refine sm _ rfl hk rfl rfl rfl fun a hk => ?_
      rcases cond_some H with ⟨c66, H⟩ | ⟨c66, H⟩
      · have hk := hk.lit 31 c66 rfl
        refine sf ⟨b2, 1, none⟩ rfl hk rfl rfl rfl fd53_1 rfl fun a hk => ?_
        refine sln [.slice A0_1 x0.Oram.Pos.length p0_1, .slice A0_2 x0.Oram.Stash.length p0_2, .slice A0_3 x0.Oram.Buckets.length p0_3] rfl hk rfl rfl rfl ag51 sz51 (box_part hs (k := 5) rfl rfl) fun a hk => ?_
        obtain ⟨y67, h68, H⟩ := bind_some H
        refine sc rfl en84 hk rfl rfl rfl (impl_OramOK_t _ x0.Oram A0_1 p0_1 _ v0_1 (hs.hasD (k := 2) rfl) A0_2 p0_2 _ v0_2 (hs.hasD (k := 3) rfl) A0_3 p0_3 _ v0_3 (hs.hasD (k := 4) rfl) _ h68) ?_
        rintro _ w ⟨rfl, hG⟩ a hk
        have hs := hs.call0 hG
        refine sv (.bool y67) hk rfl rfl rfl fun a hk => ?_
        refine sa _ rfl hk rfl rfl rfl fun a hk => ?_
        show wpList _ _ _ [] _ _
        refine wpList_nil ?_
        obtain rfl := Option.some.inj H
        show R65 _ _
        rw [hR65]
        exact ⟨y67, rfl, (hk.c 2 rfl hk.k), (hs.pick [] rfl)⟩
      · have hk := hk.lit 31 c66 rfl
        refine sk hk rfl rfl rfl fun a hk => ?_
        refine sk hk rfl rfl rfl fun a hk => ?_
        refine sk hk rfl rfl rfl fun a hk => ?_
        refine sv (.bool false) hk rfl rfl rfl fun a hk => ?_
        refine sa _ rfl hk rfl rfl rfl fun a hk => ?_
        show wpList _ _ _ [] _ _
        refine wpList_nil ?_
        obtain rfl := Option.some.inj H
        show R65 _ _
        rw [hR65]
        exact ⟨false, rfl, (hk.c 2 rfl hk.k), (hs.pick [] rfl)⟩
    · intro a w hR0
      rw [hR65] at hR0
      obtain ⟨u61, rfl, hk, hs⟩ := hR0
      have H := HL64
      try dsimp only at H
      refine hK59 _ _ ?_
      refine wp_ret ?_
      obtain rfl := Option.some.inj H
      exact fin hk _ [(.bool u61)] rfl ⟨rfl, trivial⟩ ⟨rfl, (hs.pick [] rfl).dnil⟩

noncomputable def slices_IndexFunc_impl_Result_impl_Result.s0 (l0 : List S_Result) (q1 : S_Result → Option (Bool)) (u6 : Int) : Option ((Int) ⊕ Ex (Unit) (Int)) :=
  (bif (decide (u6 < (l0.length : Int))) then (if 0 ≤ u6 ∧ u6 < (l0.length : Int) then ((q1 (l0.getD u6.toNat z_Result)).bind fun y28 => (bif y28 then (some (.inr (.ret u6))) else (some (.inl (w64 (u6 + 1)))))) else none) else (some (.inr (.out ()))))
noncomputable def slices_IndexFunc_impl_Result_impl_Result.f (l0 : List S_Result) (q1 : S_Result → Option (Bool)) : Option (Int) :=
  ((loopO (fun s => slices_IndexFunc_impl_Result_impl_Result.s0 l0 q1 s) 0).bind fun o => match o with | .out _ => (some (-1)) | .ret r => (some r))
set_option maxRecDepth 100000 in
set_option maxHeartbeats 0 in
theorem slices_IndexFunc_impl_Result_impl_Result_t (w0 : World) (A0_ : Option Addr) (p0_ : Nat) (l0 : List S_Result) (k0_ : Chunk) (v0_ : View L_impl_Result A0_ p0_ l0 k0_) (w0_ : Has w0 k0_) (f1_ : FuncId) (c1_ : List Value) (e1_ : Enters Try.prog f1_) (q1 : S_Result → Option (Bool)) (k1_ : Chunk) (t1_ : ∀ w, Has w k1_ → ∀ (z0 : S_Result) (z0A1 : Option Addr) (z0p1 : Nat) (z0k1 : Chunk) (z0v1 : View (Lay.int .i64) z0A1 z0p1 z0.Values z0k1) (z0w1 : Has w z0k1) (r : Bool), q1 z0 = some r → Calls Try.prog f1_ (([.agg #[.int .i64 z0.Code, .slice z0A1 z0.Values.length z0p1]] : List Value) ++ c1_).toArray w (Ret (fun v w2 => v = .bool r ∧ Sat [] w w2 [] []))) (w1_ : Has w0 k1_) (r : Int) (H : slices_IndexFunc_impl_Result_impl_Result.f l0 q1 = some r) :
    Calls Try.prog 185 #[.slice A0_ l0.length p0_, .func (.func f1_) #[] c1_.toArray] w0 (Ret (fun v w => v = .int .i64 r ∧ Sat [] w0 w [] [])) := by
  have hs : Sat [] w0 w0 [(1, k0_), (2, k1_)] [] := Sat.init w0 [(1, k0_), (2, k1_)] [] (by simp only [List.mem_cons, List.not_mem_nil, or_false]; rintro x (rfl | rfl) <;> assumption) (by simp) List.nodup_nil (by simp [blks])
  unfold slices_IndexFunc_impl_Result_impl_Result.f at H
  refine enter Try.func185 rfl Try.ntmps185 rfl fun a hk => ?_
  apply wp_seq_k; intro K1 hK1
  apply wp_region_lit
  refine sa _ rfl hk rfl rfl rfl fun a hk => ?_
  show wpList _ _ _ [] _ _
  refine wpList_nil ?_
  refine hK1 _ _ ?_
  apply wp_seq_k; intro K2 hK2
  apply wp_seq_k; intro K3 hK3
  apply wp_region_lit
  refine sm _ rfl hk rfl rfl rfl fun a hk => ?_
  refine sle rfl hk rfl rfl rfl un55 fun a hk => ?_
  refine sm _ rfl hk rfl rfl rfl fun a hk => ?_
  show wpList _ _ _ [] _ _
  refine wpList_nil ?_
  refine hK3 _ _ ?_
  obtain ⟨o7, h8, HL9⟩ := bind_some H
  clear H
  obtain ⟨R10, hR10⟩ : ∃ R : Act → World → Prop, R = fun a w => o7 = .out () ∧ Kn [] 19 a ∧ Sat [] w0 w [(1, k0_), (2, k1_)] [] := ⟨_, rfl⟩
  refine wp_cutq R10 ?_ ?_
  · refine wp_block ?_
    obtain ⟨fu12, h8⟩ := loopO_some h8
    obtain ⟨I11, hI11⟩ : ∃ I : Nat → Act → World → Prop, I = fun fu a w => ∃ (u6 : Int), loopN (fun s => slices_IndexFunc_impl_Result_impl_Result.s0 l0 q1 s) fu u6 = some o7 ∧ Kn [(0, (.slice A0_ l0.length p0_)), (1, (.func (.func f1_) #[] c1_.toArray)), (7, (.int .i64 (l0.length : Int))), (8, (.int .i64 u6))] 19 a ∧ Sat [] w0 w [(1, k0_), (2, k1_)] [] := ⟨_, rfl⟩
    refine wp_loop_ghost I11 fu12 ?_ ?_
    · rw [hI11]
      exact ⟨0, h8, (hk.c 0 rfl (hk.c 1 rfl (hk.c 7 rfl (hk.c 8 rfl hk.k)))), (hs.pick [] rfl)⟩
    · clear h8 hk hs
      intro fu12 a w hI0
      rw [hI11] at hI0
      obtain ⟨u6, hi, hk, hs⟩ := hI0
      obtain ⟨x13, H, h14⟩ := loop_round hi
      try dsimp only at H
      unfold slices_IndexFunc_impl_Result_impl_Result.s0 at H
      apply wp_seq_k; intro K15 hK15
      apply wp_region_lit
      refine sv (.bool (decide (u6 < (l0.length : Int)))) hk rfl rfl rfl fun a hk => ?_
      show wpList _ _ _ [] _ _
      refine wpList_nil ?_
      refine hK15 _ _ ?_
      apply wp_seq_k; intro K16 hK16
      rcases cond_some H with ⟨c17, H⟩ | ⟨c17, H⟩
      · have hk := hk.lit 9 c17 rfl
        refine cnd_true hk rfl rfl ?_
        refine wp_skip ?_
        refine hK16 _ _ ?_
        apply wp_seq_k; intro K18 hK18
        refine wp_block ?_
        apply wp_seq_k; intro K19 hK19
        apply wp_region_lit
        refine sm _ rfl hk rfl rfl rfl fun a hk => ?_
        refine sa _ rfl hk rfl rfl rfl fun a hk => ?_
        show wpList _ _ _ [] _ _
        refine wpList_nil ?_
        refine hK19 _ _ ?_
        apply wp_seq_k; intro K20 hK20
        apply wp_region_lit
        refine sm _ rfl hk rfl rfl rfl fun a hk => ?_
        refine sm _ rfl hk rfl rfl rfl fun a hk => ?_
        refine sm _ rfl hk rfl rfl rfl fun a hk => ?_
        rcases ite_some H with ⟨c21, H⟩ | ⟨_, H⟩
        rotate_left
        · cases H
        obtain ⟨b22, q23, hAc21⟩ := (v0_).some_ u6 c21.1 c21.2
        refine si rfl hk rfl rfl rfl rfl un55 sz105 c21.1 c21.2 hAc21 fun a hk => ?_
        obtain ⟨_, ⟨_, _, rfl, rfl, ⟨_, rfl, A25, p26, rfl, v27⟩⟩, e24⟩ := (v0_).at_ z_Result u6 c21.1 c21.2
        refine sln [.int .i64 ((l0.getD u6.toNat z_Result).Code), .slice A25 ((l0.getD u6.toNat z_Result).Values).length p26] rfl hk rfl rfl rfl ag105 sz105 (cells_at e24 (hs.hasD (k := 1) rfl)) fun a hk => ?_
        obtain ⟨y28, h29, H⟩ := bind_some H
        refine scv (vs := ([(.agg #[.int .i64 ((l0.getD u6.toNat z_Result).Code), .slice A25 ((l0.getD u6.toNat z_Result).Values).length p26])] : List Value) ++ c1_) rfl rfl e1_ hk rfl rfl rfl (t1_ _ (hs.hasD (k := 2) rfl) (l0.getD u6.toNat z_Result) A25 p26 _ v27 (hs.hasD (k := 1) rfl) _ h29) ?_
        rintro _ w ⟨rfl, hG⟩ a hk
        have hs := hs.call0 hG
        show wpList _ _ _ [] _ _
        refine wpList_nil ?_
        refine hK20 _ _ ?_
        rcases cond_some H with ⟨c30, H⟩ | ⟨c30, H⟩
        · have hk := hk.lit 16 c30 rfl
          refine cnd_true hk rfl rfl ?_
          apply wp_seq_k; intro K31 hK31
          apply wp_region_lit
          refine sm _ rfl hk rfl rfl rfl fun a hk => ?_
          refine sa _ rfl hk rfl rfl rfl fun a hk => ?_
          show wpList _ _ _ [] _ _
          refine wpList_nil ?_
          refine hK31 _ _ ?_
          refine wp_ret ?_
          obtain rfl := Option.some.inj H
          have ho7 := h14
          try dsimp only at ho7
          subst ho7
          have H := HL9
          try dsimp only at H
          obtain rfl := Option.some.inj H
          exact fin hk _ [(.int .i64 u6)] rfl ⟨rfl, trivial⟩ ⟨rfl, (hs.pick [] rfl).dnil⟩
        · have hk := hk.lit 16 c30 rfl
          refine cnd_false hk rfl rfl ?_
          refine wp_skip ?_
          refine hK18 _ _ ?_
          apply wp_region_lit
          refine sv (.int .i64 (w64 (u6 + 1))) hk rfl rfl rfl fun a hk => ?_
          refine sm _ rfl hk rfl rfl rfl fun a hk => ?_
          show wpList _ _ _ [] _ _
          refine wpList_nil ?_
          obtain rfl := Option.some.inj H
          obtain ⟨m32, hmm32, h14⟩ := h14
          show ∃ n', n' < _ ∧ I11 n' _ _
          refine ⟨m32, hmm32, ?_⟩
          rw [hI11]
          exact ⟨(w64 (u6 + 1)), h14, (hk.c 0 rfl (hk.c 1 rfl (hk.c 7 rfl (hk.c 8 rfl hk.k)))), (hs.pick [] rfl)⟩
      · have hk := hk.lit 9 c17 rfl
        refine cnd_false hk rfl rfl ?_
        refine wp_exit ?_
        obtain rfl := Option.some.inj H
        show R10 _ _
        rw [hR10]
        exact ⟨h14.symm, hk.k, (hs.pick [] rfl)⟩
  · intro a w hR0
    rw [hR10] at hR0
    obtain ⟨rfl, hk, hs⟩ := hR0
    have H := HL9
    try dsimp only at H
    refine hK2 _ _ ?_
    apply wp_seq_k; intro K33 hK33
    apply wp_region_lit
    refine sa _ rfl hk rfl rfl rfl fun a hk => ?_
    show wpList _ _ _ [] _ _
    refine wpList_nil ?_
    refine hK33 _ _ ?_
    refine wp_ret ?_
    obtain rfl := Option.some.inj H
    exact fin hk _ [(.int .i64 (-1))] rfl ⟨rfl, trivial⟩ ⟨rfl, (hs.pick [] rfl).dnil⟩

noncomputable def slices_ContainsFunc_impl_Result_impl_Result.f (l0 : List S_Result) (q1 : S_Result → Option (Bool)) : Option (Bool) :=
  ((slices_IndexFunc_impl_Result_impl_Result.f l0 q1).bind fun y3 => (some (decide (y3 ≥ 0))))
set_option maxRecDepth 100000 in
set_option maxHeartbeats 0 in
theorem slices_ContainsFunc_impl_Result_impl_Result_t (w0 : World) (A0_ : Option Addr) (p0_ : Nat) (l0 : List S_Result) (k0_ : Chunk) (v0_ : View L_impl_Result A0_ p0_ l0 k0_) (w0_ : Has w0 k0_) (f1_ : FuncId) (c1_ : List Value) (e1_ : Enters Try.prog f1_) (q1 : S_Result → Option (Bool)) (k1_ : Chunk) (t1_ : ∀ w, Has w k1_ → ∀ (z0 : S_Result) (z0A1 : Option Addr) (z0p1 : Nat) (z0k1 : Chunk) (z0v1 : View (Lay.int .i64) z0A1 z0p1 z0.Values z0k1) (z0w1 : Has w z0k1) (r : Bool), q1 z0 = some r → Calls Try.prog f1_ (([.agg #[.int .i64 z0.Code, .slice z0A1 z0.Values.length z0p1]] : List Value) ++ c1_).toArray w (Ret (fun v w2 => v = .bool r ∧ Sat [] w w2 [] []))) (w1_ : Has w0 k1_) (r : Bool) (H : slices_ContainsFunc_impl_Result_impl_Result.f l0 q1 = some r) :
    Calls Try.prog 161 #[.slice A0_ l0.length p0_, .func (.func f1_) #[] c1_.toArray] w0 (Ret (fun v w => v = .bool r ∧ Sat [] w0 w [] [])) := by
  have hs : Sat [] w0 w0 [(1, k0_), (2, k1_)] [] := Sat.init w0 [(1, k0_), (2, k1_)] [] (by simp only [List.mem_cons, List.not_mem_nil, or_false]; rintro x (rfl | rfl) <;> assumption) (by simp) List.nodup_nil (by simp [blks])
  unfold slices_ContainsFunc_impl_Result_impl_Result.f at H
  refine enter Try.func161 rfl Try.ntmps161 rfl fun a hk => ?_
  apply wp_seq_k; intro K1 hK1
  apply wp_region_lit
  refine sa _ rfl hk rfl rfl rfl fun a hk => ?_
  show wpList _ _ _ [] _ _
  refine wpList_nil ?_
  refine hK1 _ _ ?_
  apply wp_seq_k; intro K2 hK2
  apply wp_region_lit
  refine sm _ rfl hk rfl rfl rfl fun a hk => ?_
  refine sm _ rfl hk rfl rfl rfl fun a hk => ?_
  obtain ⟨y3, h4, H⟩ := bind_some H
  refine sc rfl en185 hk rfl rfl rfl (slices_IndexFunc_impl_Result_impl_Result_t _ A0_ p0_ l0 _ v0_ (hs.hasD (k := 1) rfl) f1_ c1_ e1_ q1 k1_ t1_ (hs.hasD (k := 2) rfl) _ h4) ?_
  rintro _ w ⟨rfl, hG⟩ a hk
  have hs := hs.call0 hG
  refine sv (.bool (decide (y3 ≥ 0))) hk rfl rfl rfl fun a hk => ?_
  refine sa _ rfl hk rfl rfl rfl fun a hk => ?_
  show wpList _ _ _ [] _ _
  refine wpList_nil ?_
  refine hK2 _ _ ?_
  refine wp_ret ?_
  obtain rfl := Option.some.inj H
  exact fin hk _ [(.bool (decide (y3 ≥ 0)))] rfl ⟨rfl, trivial⟩ ⟨rfl, (hs.pick [] rfl).dnil⟩

noncomputable def impl_areAll_impl_Result__c1.f (x0 : S_Result) (q1 : S_Result → Option (Bool)) : Option (Bool) :=
  ((q1 x0).bind fun y4 => (some (!y4)))
set_option maxRecDepth 100000 in
set_option maxHeartbeats 0 in
theorem impl_areAll_impl_Result__c1_t (w0 : World) (x0 : S_Result) (A0_0 : Option Addr) (p0_0 : Nat) (k0_0 : Chunk) (v0_0 : View (Lay.int .i64) A0_0 p0_0 x0.Values k0_0) (w0_0 : Has w0 k0_0) (b1_ : Nat) (f1_ : FuncId) (c1_ : List Value) (e1_ : Enters Try.prog f1_) (q1 : S_Result → Option (Bool)) (k1_ : Chunk) (t1_ : ∀ w, Has w k1_ → ∀ (z0 : S_Result) (z0A1 : Option Addr) (z0p1 : Nat) (z0k1 : Chunk) (z0v1 : View (Lay.int .i64) z0A1 z0p1 z0.Values z0k1) (z0w1 : Has w z0k1) (r : Bool), q1 z0 = some r → Calls Try.prog f1_ (([.agg #[.int .i64 z0.Code, .slice z0A1 z0.Values.length z0p1]] : List Value) ++ c1_).toArray w (Ret (fun v w2 => v = .bool r ∧ Sat [] w w2 [] []))) (w1_ : Has w0 k1_) (h1_ : Has w0 [(b1_, .cells #[.func (.func f1_) #[] c1_.toArray] 141 (0, 0))]) (r : Bool) (H : impl_areAll_impl_Result__c1.f x0 q1 = some r) :
    Calls Try.prog 162 #[.agg #[.int .i64 x0.Code, .slice A0_0 x0.Values.length p0_0], .pointer (some ⟨b1_, 0, none⟩)] w0 (Ret (fun v w => v = .bool r ∧ Sat [] w0 w [] [])) := by
  have hs : Sat [] w0 w0 [(1, k0_0), (3, k1_), (2, [(b1_, .cells #[.func (.func f1_) #[] c1_.toArray] 141 (0, 0))])] [] := Sat.init w0 [(1, k0_0), (3, k1_), (2, [(b1_, .cells #[.func (.func f1_) #[] c1_.toArray] 141 (0, 0))])] [] (by simp only [List.mem_cons, List.not_mem_nil, or_false]; rintro x (rfl | rfl | rfl) <;> assumption) (by simp) List.nodup_nil (by simp [blks])
  unfold impl_areAll_impl_Result__c1.f at H
  refine enter Try.func162 rfl Try.ntmps162 rfl fun a hk => ?_
  apply wp_seq_k; intro K1 hK1
  apply wp_region_lit
  refine sbx 4 hs rfl hk rfl rfl rfl rfl fun b2 w a hk hs => ?_
  refine sa _ rfl hk rfl rfl rfl fun a hk => ?_
  show wpList _ _ _ [] _ _
  refine wpList_nil ?_
  refine hK1 _ _ ?_
  apply wp_seq_k; intro K3 hK3
  apply wp_region_lit
  refine sl rfl hk rfl rfl rfl ag141 (box_cellD hs (k := 2) rfl rfl) fun a hk => ?_
  refine sln [.int .i64 x0.Code, .slice A0_0 x0.Values.length p0_0] rfl hk rfl rfl rfl ag105 sz105 (box_cells hs (k := 4) rfl) fun a hk => ?_
  obtain ⟨y4, h5, H⟩ := bind_some H
  refine scv (vs := ([(.agg #[.int .i64 x0.Code, .slice A0_0 x0.Values.length p0_0])] : List Value) ++ c1_) rfl rfl e1_ hk rfl rfl rfl (t1_ _ (hs.hasD (k := 3) rfl) x0 A0_0 p0_0 _ v0_0 (hs.hasD (k := 1) rfl) _ h5) ?_
  rintro _ w ⟨rfl, hG⟩ a hk
  have hs := hs.call0 hG
  refine sv (.bool (!y4)) hk rfl rfl rfl fun a hk => ?_
  refine sa _ rfl hk rfl rfl rfl fun a hk => ?_
  show wpList _ _ _ [] _ _
  refine wpList_nil ?_
  refine hK3 _ _ ?_
  refine wp_ret ?_
  obtain rfl := Option.some.inj H
  exact fin hk _ [(.bool (!y4))] rfl ⟨rfl, trivial⟩ ⟨rfl, (hs.pick [] rfl).dnil⟩

noncomputable def impl_areAll_impl_Result.f (l0 : List S_Result) (q1 : S_Result → Option (Bool)) : Option (Bool) :=
  ((slices_ContainsFunc_impl_Result_impl_Result.f l0 (fun z0 => impl_areAll_impl_Result__c1.f z0 q1)).bind fun y4 => (some (!y4)))
set_option maxRecDepth 100000 in
set_option maxHeartbeats 0 in
theorem impl_areAll_impl_Result_t (w0 : World) (A0_ : Option Addr) (p0_ : Nat) (l0 : List S_Result) (k0_ : Chunk) (v0_ : View L_impl_Result A0_ p0_ l0 k0_) (w0_ : Has w0 k0_) (f1_ : FuncId) (c1_ : List Value) (e1_ : Enters Try.prog f1_) (q1 : S_Result → Option (Bool)) (k1_ : Chunk) (t1_ : ∀ w, Has w k1_ → ∀ (z0 : S_Result) (z0A1 : Option Addr) (z0p1 : Nat) (z0k1 : Chunk) (z0v1 : View (Lay.int .i64) z0A1 z0p1 z0.Values z0k1) (z0w1 : Has w z0k1) (r : Bool), q1 z0 = some r → Calls Try.prog f1_ (([.agg #[.int .i64 z0.Code, .slice z0A1 z0.Values.length z0p1]] : List Value) ++ c1_).toArray w (Ret (fun v w2 => v = .bool r ∧ Sat [] w w2 [] []))) (w1_ : Has w0 k1_) (r : Bool) (H : impl_areAll_impl_Result.f l0 q1 = some r) :
    Calls Try.prog 123 #[.slice A0_ l0.length p0_, .func (.func f1_) #[] c1_.toArray] w0 (Ret (fun v w => v = .bool r ∧ Sat [] w0 w [] [])) := by
  have hs : Sat [] w0 w0 [(1, k0_), (2, k1_)] [] := Sat.init w0 [(1, k0_), (2, k1_)] [] (by simp only [List.mem_cons, List.not_mem_nil, or_false]; rintro x (rfl | rfl) <;> assumption) (by simp) List.nodup_nil (by simp [blks])
  unfold impl_areAll_impl_Result.f at H
  refine enter Try.func123 rfl Try.ntmps123 rfl fun a hk => ?_
  apply wp_seq_k; intro K1 hK1
  apply wp_region_lit
  refine sbx 3 hs rfl hk rfl rfl rfl rfl fun b2 w a hk hs => ?_
  refine sa _ rfl hk rfl rfl rfl fun a hk => ?_
  show wpList _ _ _ [] _ _
  refine wpList_nil ?_
  refine hK1 _ _ ?_
  apply wp_seq_k; intro K3 hK3
  apply wp_region_lit
  refine sm _ rfl hk rfl rfl rfl fun a hk => ?_
  refine smf (cs := [.pointer (some ⟨b2, 0, none⟩)]) rfl hk rfl rfl rfl fun a hk => ?_
  obtain ⟨y4, h5, H⟩ := bind_some H
  refine sc rfl en161 hk rfl rfl rfl (slices_ContainsFunc_impl_Result_impl_Result_t _ A0_ p0_ l0 _ v0_ (hs.hasD (k := 1) rfl) 162 [.pointer (some ⟨b2, 0, none⟩)] en162 (fun z0 => impl_areAll_impl_Result__c1.f z0 q1) ([(b2, .cells #[.func (.func f1_) #[] c1_.toArray] 141 (0, 0))] ++ k1_) (fun w hz z0 z0A1 z0p1 z0k1 z0v1 z0w1 r h => impl_areAll_impl_Result__c1_t w z0 z0A1 z0p1 z0k1 z0v1 z0w1 _ f1_ c1_ e1_ q1 k1_ t1_ (Has.right hz) (Has.left hz) r h) (Has.app (hs.hasG (k := 3) rfl) (hs.hasD (k := 2) rfl)) _ h5) ?_
  rintro _ w ⟨rfl, hG⟩ a hk
  have hs := hs.call0 hG
  refine sv (.bool (!y4)) hk rfl rfl rfl fun a hk => ?_
  refine sa _ rfl hk rfl rfl rfl fun a hk => ?_
  show wpList _ _ _ [] _ _
  refine wpList_nil ?_
  refine hK3 _ _ ?_
  refine wp_ret ?_
  obtain rfl := Option.some.inj H
  exact fin hk _ [(.bool (!y4))] rfl ⟨rfl, trivial⟩ ⟨rfl, (hs.pick [] rfl).dnil⟩

noncomputable def impl_isCode.f (x0 : Int) : Option (Bool) :=
  ((impl_within.f x0 0 19).bind fun y3 => (some y3))
set_option maxRecDepth 100000 in
set_option maxHeartbeats 0 in
theorem impl_isCode_t (w0 : World) (x0 : Int) (r : Bool) (H : impl_isCode.f x0 = some r) :
    Calls Try.prog 163 #[.int .i64 x0] w0 (Ret (fun v w => v = .bool r ∧ Sat [] w0 w [] [])) := by
  have hs : Sat [] w0 w0 [] [] := Sat.init w0 [] [] (by simp) (by simp) List.nodup_nil (by simp [blks])
  unfold impl_isCode.f at H
  refine enter Try.func163 rfl Try.ntmps163 rfl fun a hk => ?_
  apply wp_seq_k; intro K1 hK1
  apply wp_region_lit
  refine sa _ rfl hk rfl rfl rfl fun a hk => ?_
  show wpList _ _ _ [] _ _
  refine wpList_nil ?_
  refine hK1 _ _ ?_
  apply wp_seq_k; intro K2 hK2
  apply wp_region_lit
  refine sm _ rfl hk rfl rfl rfl fun a hk => ?_
  obtain ⟨y3, h4, H⟩ := bind_some H
  refine sc rfl en115 hk rfl rfl rfl (impl_within_t _ x0 0 19 _ h4) ?_
  rintro _ w ⟨rfl, hG⟩ a hk
  have hs := hs.call0 hG
  refine sa _ rfl hk rfl rfl rfl fun a hk => ?_
  show wpList _ _ _ [] _ _
  refine wpList_nil ?_
  refine hK2 _ _ ?_
  refine wp_ret ?_
  obtain rfl := Option.some.inj H
  exact fin hk _ [(.bool y3)] rfl ⟨rfl, trivial⟩ ⟨rfl, (hs.pick [] rfl).dnil⟩

noncomputable def impl_isResult.f (x0 : S_Result) : Option (Bool) :=
  ((((impl_isCode.f x0.Code).bind fun y10 => (bif y10 then (bif (decide ((x0.Values.length : Int) ≤ 32)) then ((impl_areAll_int.f x0.Values impl_isValue.f).bind fun y14 => (bif y14 then (bif (x0.Code == 0) then (some true) else (some ((x0.Values.length : Int) == 0))) else (some false))) else (some false)) else (some false))) : Option (Bool)).bind fun u5 => (some u5))
set_option maxRecDepth 100000 in
set_option maxHeartbeats 0 in
theorem impl_isResult_t (w0 : World) (x0 : S_Result) (A0_0 : Option Addr) (p0_0 : Nat) (k0_0 : Chunk) (v0_0 : View (Lay.int .i64) A0_0 p0_0 x0.Values k0_0) (w0_0 : Has w0 k0_0) (r : Bool) (H : impl_isResult.f x0 = some r) :
    Calls Try.prog 124 #[.agg #[.int .i64 x0.Code, .slice A0_0 x0.Values.length p0_0]] w0 (Ret (fun v w => v = .bool r ∧ Sat [] w0 w [] [])) := by
  have hs : Sat [] w0 w0 [(1, k0_0)] [] := Sat.init w0 [(1, k0_0)] [] (by simp only [List.mem_cons, List.not_mem_nil, or_false]; rintro x (rfl) <;> assumption) (by simp) List.nodup_nil (by simp [blks])
  unfold impl_isResult.f at H
  refine enter Try.func124 rfl Try.ntmps124 rfl fun a hk => ?_
  apply wp_seq_k; intro K1 hK1
  apply wp_region_lit
  refine sbx 2 hs rfl hk rfl rfl rfl rfl fun b2 w a hk hs => ?_
  refine sa _ rfl hk rfl rfl rfl fun a hk => ?_
  show wpList _ _ _ [] _ _
  refine wpList_nil ?_
  refine hK1 _ _ ?_
  apply wp_seq_k; intro K3 hK3
  obtain ⟨o6, h7, HL8⟩ := bind_some H
  clear H
  obtain ⟨R9, hR9⟩ : ∃ R : Act → World → Prop, R = fun a w => ∃ (u5 : Bool), u5 = o6 ∧ Kn [(2, (.bool u5))] 28 a ∧ Sat [] w0 w [(1, k0_0)] [] := ⟨_, rfl⟩
  refine wp_cutq R9 ?_ ?_
  · have H := h7
    apply wp_region_lit
    refine sf ⟨b2, 0, none⟩ rfl hk rfl rfl rfl fd105_0 rfl fun a hk => ?_
    refine sl rfl hk rfl rfl rfl ag3 (box_cell hs (k := 2) rfl rfl) fun a hk => ?_
    obtain ⟨y10, h11, H⟩ := bind_some H
    refine sc rfl en163 hk rfl rfl rfl (impl_isCode_t _ x0.Code _ h11) ?_
    rintro _ w ⟨rfl, hG⟩ a hk
    have hs := hs.call0 hG
    refine sm _ rfl hk rfl rfl rfl fun a hk => ?_
    rcases cond_some H with ⟨c12, H⟩ | ⟨c12, H⟩
    · have hk := hk.lit 6 c12 rfl
      refine sf ⟨b2, 1, none⟩ rfl hk rfl rfl rfl fd105_1 rfl fun a hk => ?_
      refine sl rfl hk rfl rfl rfl ag31 (box_cell hs (k := 2) rfl rfl) fun a hk => ?_
      refine sle rfl hk rfl rfl rfl un31 fun a hk => ?_
      refine sv (.bool (decide ((x0.Values.length : Int) ≤ 32))) hk rfl rfl rfl fun a hk => ?_
      refine sv (.bool (decide ((x0.Values.length : Int) ≤ 32))) hk rfl rfl rfl fun a hk => ?_
      refine sm _ rfl hk rfl rfl rfl fun a hk => ?_
      rcases cond_some H with ⟨c13, H⟩ | ⟨c13, H⟩
      · have hk := hk.lit 12 c13 rfl
        refine sf ⟨b2, 1, none⟩ rfl hk rfl rfl rfl fd105_1 rfl fun a hk => ?_
        refine sl rfl hk rfl rfl rfl ag31 (box_cell hs (k := 2) rfl rfl) fun a hk => ?_
        obtain ⟨y14, h15, H⟩ := bind_some H
        refine sc rfl en114 hk rfl rfl rfl (impl_areAll_int_t _ A0_0 p0_0 x0.Values _ v0_0 (hs.hasD (k := 1) rfl) 107 [] en107 impl_isValue.f [] (fun w _ z0 r h => impl_isValue_t w z0 r h) (Has.nil _) _ h15) ?_
        rintro _ w ⟨rfl, hG⟩ a hk
        have hs := hs.call0 hG
        refine sv (.bool y14) hk rfl rfl rfl fun a hk => ?_
        refine sm _ rfl hk rfl rfl rfl fun a hk => ?_
        rcases cond_some H with ⟨c16, H⟩ | ⟨c16, H⟩
        · have hk := hk.lit 17 c16 rfl
          refine sf ⟨b2, 0, none⟩ rfl hk rfl rfl rfl fd105_0 rfl fun a hk => ?_
          refine sl rfl hk rfl rfl rfl ag3 (box_cell hs (k := 2) rfl rfl) fun a hk => ?_
          refine sv (.bool (x0.Code == 0)) hk rfl rfl rfl fun a hk => ?_
          refine sm _ rfl hk rfl rfl rfl fun a hk => ?_
          rcases cond_some H with ⟨c17, H⟩ | ⟨c17, H⟩
          · have hk := hk.lit 21 c17 rfl
            refine sk hk rfl rfl rfl fun a hk => ?_
            refine sk hk rfl rfl rfl fun a hk => ?_
            refine sk hk rfl rfl rfl fun a hk => ?_
            refine sk hk rfl rfl rfl fun a hk => ?_
            refine sv (.bool true) hk rfl rfl rfl fun a hk => ?_
            refine sv (.bool true) hk rfl rfl rfl fun a hk => ?_
            refine sa _ rfl hk rfl rfl rfl fun a hk => ?_
            show wpList _ _ _ [] _ _
            refine wpList_nil ?_
            obtain rfl := Option.some.inj H
            show R9 _ _
            rw [hR9]
            exact ⟨true, rfl, (hk.c 2 rfl hk.k), (hs.pick [] rfl)⟩
          · have hk := hk.lit 21 c17 rfl
            refine sf ⟨b2, 1, none⟩ rfl hk rfl rfl rfl fd105_1 rfl fun a hk => ?_
            refine sl rfl hk rfl rfl rfl ag31 (box_cell hs (k := 2) rfl rfl) fun a hk => ?_
            refine sle rfl hk rfl rfl rfl un31 fun a hk => ?_
            refine sv (.bool ((x0.Values.length : Int) == 0)) hk rfl rfl rfl fun a hk => ?_
            refine sv (.bool ((x0.Values.length : Int) == 0)) hk rfl rfl rfl fun a hk => ?_
            refine sv (.bool ((x0.Values.length : Int) == 0)) hk rfl rfl rfl fun a hk => ?_
            refine sa _ rfl hk rfl rfl rfl fun a hk => ?_
            show wpList _ _ _ [] _ _
            refine wpList_nil ?_
            obtain rfl := Option.some.inj H
            show R9 _ _
            rw [hR9]
            exact ⟨((x0.Values.length : Int) == 0), rfl, (hk.c 2 rfl hk.k), (hs.pick [] rfl)⟩
        · have hk := hk.lit 17 c16 rfl
          refine sk hk rfl rfl rfl fun a hk => ?_
          refine sk hk rfl rfl rfl fun a hk => ?_
          refine sk hk rfl rfl rfl fun a hk => ?_
          refine sk hk rfl rfl rfl fun a hk => ?_
          refine sk hk rfl rfl rfl fun a hk => ?_
          refine sk hk rfl rfl rfl fun a hk => ?_
          refine sk hk rfl rfl rfl fun a hk => ?_
          refine sk hk rfl rfl rfl fun a hk => ?_
          refine sk hk rfl rfl rfl fun a hk => ?_
          refine sv (.bool false) hk rfl rfl rfl fun a hk => ?_
          refine sa _ rfl hk rfl rfl rfl fun a hk => ?_
          show wpList _ _ _ [] _ _
          refine wpList_nil ?_
          obtain rfl := Option.some.inj H
          show R9 _ _
          rw [hR9]
          exact ⟨false, rfl, (hk.c 2 rfl hk.k), (hs.pick [] rfl)⟩
      · have hk := hk.lit 12 c13 rfl
        refine sk hk rfl rfl rfl fun a hk => ?_
        refine sk hk rfl rfl rfl fun a hk => ?_
        refine sk hk rfl rfl rfl fun a hk => ?_
        refine sv (.bool false) hk rfl rfl rfl fun a hk => ?_
        refine sm _ rfl hk rfl rfl rfl fun a hk => ?_
        refine sk hk rfl rfl rfl fun a hk => ?_
        refine sk hk rfl rfl rfl fun a hk => ?_
        refine sk hk rfl rfl rfl fun a hk => ?_
        refine sk hk rfl rfl rfl fun a hk => ?_
        refine sk hk rfl rfl rfl fun a hk => ?_
        refine sk hk rfl rfl rfl fun a hk => ?_
        refine sk hk rfl rfl rfl fun a hk => ?_
        refine sk hk rfl rfl rfl fun a hk => ?_
        refine sk hk rfl rfl rfl fun a hk => ?_
        refine sv (.bool false) hk rfl rfl rfl fun a hk => ?_
        refine sa _ rfl hk rfl rfl rfl fun a hk => ?_
        show wpList _ _ _ [] _ _
        refine wpList_nil ?_
        obtain rfl := Option.some.inj H
        show R9 _ _
        rw [hR9]
        exact ⟨false, rfl, (hk.c 2 rfl hk.k), (hs.pick [] rfl)⟩
    · have hk := hk.lit 6 c12 rfl
      refine sk hk rfl rfl rfl fun a hk => ?_
      refine sk hk rfl rfl rfl fun a hk => ?_
      refine sk hk rfl rfl rfl fun a hk => ?_
      refine sk hk rfl rfl rfl fun a hk => ?_
      refine sv (.bool false) hk rfl rfl rfl fun a hk => ?_
      refine sm _ rfl hk rfl rfl rfl fun a hk => ?_
      refine sk hk rfl rfl rfl fun a hk => ?_
      refine sk hk rfl rfl rfl fun a hk => ?_
      refine sk hk rfl rfl rfl fun a hk => ?_
      refine sv (.bool false) hk rfl rfl rfl fun a hk => ?_
      refine sm _ rfl hk rfl rfl rfl fun a hk => ?_
      refine sk hk rfl rfl rfl fun a hk => ?_
      refine sk hk rfl rfl rfl fun a hk => ?_
      refine sk hk rfl rfl rfl fun a hk => ?_
      refine sk hk rfl rfl rfl fun a hk => ?_
      refine sk hk rfl rfl rfl fun a hk => ?_
      refine sk hk rfl rfl rfl fun a hk => ?_
      refine sk hk rfl rfl rfl fun a hk => ?_
      refine sk hk rfl rfl rfl fun a hk => ?_
      refine sk hk rfl rfl rfl fun a hk => ?_
      refine sv (.bool false) hk rfl rfl rfl fun a hk => ?_
      refine sa _ rfl hk rfl rfl rfl fun a hk => ?_
      show wpList _ _ _ [] _ _
      refine wpList_nil ?_
      obtain rfl := Option.some.inj H
      show R9 _ _
      rw [hR9]
      exact ⟨false, rfl, (hk.c 2 rfl hk.k), (hs.pick [] rfl)⟩
  · intro a w hR0
    rw [hR9] at hR0
    obtain ⟨u5, rfl, hk, hs⟩ := hR0
    have H := HL8
    try dsimp only at H
    refine hK3 _ _ ?_
    refine wp_ret ?_
    obtain rfl := Option.some.inj H
    exact fin hk _ [(.bool u5)] rfl ⟨rfl, trivial⟩ ⟨rfl, (hs.pick [] rfl).dnil⟩

noncomputable def impl_areResults.f (l0 : List S_Result) : Option (Bool) :=
  (((bif (decide ((l0.length : Int) ≤ 2)) then ((impl_areAll_impl_Result.f l0 impl_isResult.f).bind fun y10 => (some y10)) else (some false)) : Option (Bool)).bind fun u4 => (some u4))
set_option maxRecDepth 100000 in
set_option maxHeartbeats 0 in
theorem impl_areResults_t (w0 : World) (A0_ : Option Addr) (p0_ : Nat) (l0 : List S_Result) (k0_ : Chunk) (v0_ : View L_impl_Result A0_ p0_ l0 k0_) (w0_ : Has w0 k0_) (r : Bool) (H : impl_areResults.f l0 = some r) :
    Calls Try.prog 76 #[.slice A0_ l0.length p0_] w0 (Ret (fun v w => v = .bool r ∧ Sat [] w0 w [] [])) := by
  have hs : Sat [] w0 w0 [(1, k0_)] [] := Sat.init w0 [(1, k0_)] [] (by simp only [List.mem_cons, List.not_mem_nil, or_false]; rintro x (rfl) <;> assumption) (by simp) List.nodup_nil (by simp [blks])
  unfold impl_areResults.f at H
  refine enter Try.func76 rfl Try.ntmps76 rfl fun a hk => ?_
  apply wp_seq_k; intro K1 hK1
  apply wp_region_lit
  refine sa _ rfl hk rfl rfl rfl fun a hk => ?_
  show wpList _ _ _ [] _ _
  refine wpList_nil ?_
  refine hK1 _ _ ?_
  apply wp_seq_k; intro K2 hK2
  obtain ⟨o5, h6, HL7⟩ := bind_some H
  clear H
  obtain ⟨R8, hR8⟩ : ∃ R : Act → World → Prop, R = fun a w => ∃ (u4 : Bool), u4 = o5 ∧ Kn [(2, (.bool u4))] 10 a ∧ Sat [] w0 w [(1, k0_)] [] := ⟨_, rfl⟩
  refine wp_cutq R8 ?_ ?_
  · have H := h6
    apply wp_region_lit
    refine sm _ rfl hk rfl rfl rfl fun a hk => ?_
    refine sle rfl hk rfl rfl rfl un55 fun a hk => ?_
    refine sv (.bool (decide ((l0.length : Int) ≤ 2))) hk rfl rfl rfl fun a hk => ?_
    refine sm _ rfl hk rfl rfl rfl fun a hk => ?_
    rcases cond_some H with ⟨c9, H⟩ | ⟨c9, H⟩
    · have hk := hk.lit 6 c9 rfl
      refine sm _ rfl hk rfl rfl rfl fun a hk => ?_
      obtain ⟨y10, h11, H⟩ := bind_some H
      refine sc rfl en123 hk rfl rfl rfl (impl_areAll_impl_Result_t _ A0_ p0_ l0 _ v0_ (hs.hasD (k := 1) rfl) 124 [] en124 impl_isResult.f [] (fun w _ z0 z0A1 z0p1 z0k1 z0v1 z0w1 r h => impl_isResult_t w z0 z0A1 z0p1 z0k1 z0v1 z0w1 r h) (Has.nil _) _ h11) ?_
      rintro _ w ⟨rfl, hG⟩ a hk
      have hs := hs.call0 hG
      refine sv (.bool y10) hk rfl rfl rfl fun a hk => ?_
      refine sa _ rfl hk rfl rfl rfl fun a hk => ?_
      show wpList _ _ _ [] _ _
      refine wpList_nil ?_
      obtain rfl := Option.some.inj H
      show R8 _ _
      rw [hR8]
      exact ⟨y10, rfl, (hk.c 2 rfl hk.k), (hs.pick [] rfl)⟩
    · have hk := hk.lit 6 c9 rfl
      refine sk hk rfl rfl rfl fun a hk => ?_
      refine sk hk rfl rfl rfl fun a hk => ?_
      refine sv (.bool false) hk rfl rfl rfl fun a hk => ?_
      refine sa _ rfl hk rfl rfl rfl fun a hk => ?_
      show wpList _ _ _ [] _ _
      refine wpList_nil ?_
      obtain rfl := Option.some.inj H
      show R8 _ _
      rw [hR8]
      exact ⟨false, rfl, (hk.c 2 rfl hk.k), (hs.pick [] rfl)⟩
  · intro a w hR0
    rw [hR8] at hR0
    obtain ⟨u4, rfl, hk, hs⟩ := hR0
    have H := HL7
    try dsimp only at H
    refine hK2 _ _ ?_
    refine wp_ret ?_
    obtain rfl := Option.some.inj H
    exact fin hk _ [(.bool u4)] rfl ⟨rfl, trivial⟩ ⟨rfl, (hs.pick [] rfl).dnil⟩

noncomputable def impl_little.s0 (x0 : Int) (x1 : Int) (u13 : List Int) (u12 : Int) : Option (((List Int) × Int) ⊕ Ex ((List Int)) (ByteArray)) :=
  (bif (decide (u12 < x1)) then (if 0 ≤ (w64 (8 * u12)) then (if u13.length + ([(IntKind.wrap .u8 (Int.fdiv x0 (2 ^ min (w64 (8 * u12)).toNat 64)))]).length ≤ 1073741824 then (some (.inl ((u13 ++ ([(IntKind.wrap .u8 (Int.fdiv x0 (2 ^ min (w64 (8 * u12)).toNat 64)))])), (w64 (u12 + 1))))) else none) else none) else (some (.inr (.out u13))))
noncomputable def impl_little.f (x0 : Int) (x1 : Int) : Option (ByteArray) :=
  ((loopO (fun s => impl_little.s0 x0 x1 s.1 s.2) (([] : List Int), 0)).bind fun o => match o with | .out u18 => (some (strOfNums u18)) | .ret r => (some r))
set_option maxRecDepth 100000 in
set_option maxHeartbeats 0 in
theorem impl_little_t (w0 : World) (x0 : Int) (x1 : Int) (r : ByteArray) (H : impl_little.f x0 x1 = some r) :
    Calls Try.prog 178 #[.int .i64 x0, .int .i64 x1] w0 (Ret (fun v w => v = .string r ∧ Sat [] w0 w [] [])) := by
  have hs : Sat [] w0 w0 [] [] := Sat.init w0 [] [] (by simp) (by simp) List.nodup_nil (by simp [blks])
  unfold impl_little.f at H
  refine enter Try.func178 rfl Try.ntmps178 rfl fun a hk => ?_
  apply wp_seq_k; intro K1 hK1
  apply wp_region_lit
  refine sa _ rfl hk rfl rfl rfl fun a hk => ?_
  show wpList _ _ _ [] _ _
  refine wpList_nil ?_
  refine hK1 _ _ ?_
  apply wp_seq_k; intro K2 hK2
  apply wp_region_lit
  refine sa _ rfl hk rfl rfl rfl fun a hk => ?_
  show wpList _ _ _ [] _ _
  refine wpList_nil ?_
  refine hK2 _ _ ?_
  apply wp_seq_k; intro K3 hK3
  apply wp_seq_k; intro K4 hK4
  apply wp_region_lit
  refine sm _ rfl hk rfl rfl rfl fun a hk => ?_
  refine sm _ rfl hk rfl rfl rfl fun a hk => ?_
  show wpList _ _ _ [] _ _
  refine wpList_nil ?_
  refine hK4 _ _ ?_
  obtain ⟨o23, h24, HL25⟩ := bind_some H
  clear H
  obtain ⟨R26, hR26⟩ : ∃ R : Act → World → Prop, R = fun a w => ∃ (u18 : List Int) (A21 : Option Addr) (p22 : Nat) (k19 : Chunk), o23 = .out u18 ∧ Kn [(5, (.slice A21 u18.length p22))] 22 a ∧ Sat [] w0 w [] [(3, k19)] ∧ Own (Lay.int .u8) 5 A21 p22 u18 k19 := ⟨_, rfl⟩
  refine wp_cutq R26 ?_ ?_
  · refine wp_block ?_
    obtain ⟨fu28, h24⟩ := loopO_some h24
    obtain ⟨I27, hI27⟩ : ∃ I : Nat → Act → World → Prop, I = fun fu a w => ∃ (u13 : List Int) (u12 : Int) (A16 : Option Addr) (p17 : Nat) (k14 : Chunk), loopN (fun s => impl_little.s0 x0 x1 s.1 s.2) fu (u13, u12) = some o23 ∧ Kn [(0, (.int .i64 x0)), (5, (.slice A16 u13.length p17)), (7, (.int .i64 x1)), (8, (.int .i64 u12))] 22 a ∧ Sat [] w0 w [] [(3, k14)] ∧ Own (Lay.int .u8) 5 A16 p17 u13 k14 := ⟨_, rfl⟩
    refine wp_loop_ghost I27 fu28 ?_ ?_
    · rw [hI27]
      exact ⟨([] : List Int), 0, none, 0, _, h24, (hk.c 0 rfl (hk.c 5 rfl (hk.c 7 rfl (hk.c 8 rfl hk.k)))), ((hs.addNil 1003).pick [(3, 1003)] rfl), Own.nil _ _⟩
    · clear h24 hk hs
      intro fu28 a w hI0
      rw [hI27] at hI0
      obtain ⟨u13, u12, A16, p17, k14, hi, hk, hs, o15⟩ := hI0
      obtain ⟨x29, H, h30⟩ := loop_round hi
      try dsimp only at H
      unfold impl_little.s0 at H
      apply wp_seq_k; intro K31 hK31
      apply wp_region_lit
      refine sv (.bool (decide (u12 < x1))) hk rfl rfl rfl fun a hk => ?_
      show wpList _ _ _ [] _ _
      refine wpList_nil ?_
      refine hK31 _ _ ?_
      apply wp_seq_k; intro K32 hK32
      rcases cond_some H with ⟨c33, H⟩ | ⟨c33, H⟩
      · have hk := hk.lit 9 c33 rfl
        refine cnd_true hk rfl rfl ?_
        refine wp_skip ?_
        refine hK32 _ _ ?_
        apply wp_seq_k; intro K34 hK34
        refine wp_block ?_
        apply wp_seq_k; intro K35 hK35
        apply wp_region_lit
        refine sm _ rfl hk rfl rfl rfl fun a hk => ?_
        refine sa _ rfl hk rfl rfl rfl fun a hk => ?_
        show wpList _ _ _ [] _ _
        refine wpList_nil ?_
        refine hK35 _ _ ?_
        apply wp_region_lit
        refine sm _ rfl hk rfl rfl rfl fun a hk => ?_
        refine sm _ rfl hk rfl rfl rfl fun a hk => ?_
        refine sm _ rfl hk rfl rfl rfl fun a hk => ?_
        refine sv (.int .i64 (w64 (8 * u12))) hk rfl rfl rfl fun a hk => ?_
        rcases ite_some H with ⟨c36, H⟩ | ⟨_, H⟩
        rotate_left
        · cases H
        refine ssr rfl hk rfl rfl rfl rfl c36 fun a hk => ?_
        refine scn rfl hk rfl rfl rfl un5 un3 fun a hk => ?_
        refine sbs (L := (Lay.int .u8)) (pv := [(0, (.int .u8 (IntKind.wrap .u8 (Int.fdiv x0 (2 ^ min (w64 (8 * u12)).toNat 64)))))]) (xs := [(IntKind.wrap .u8 (Int.fdiv x0 (2 ^ min (w64 (8 * u12)).toNat 64)))]) (ess := [[.int .u8 (IntKind.wrap .u8 (Int.fdiv x0 (2 ^ min (w64 (8 * u12)).toNat 64)))]]) 4 hs rfl hk rfl rfl rfl un74 (bs5_4 (IntKind.wrap .u8 (Int.fdiv x0 (2 ^ min (w64 (8 * u12)).toNat 64)))) (AllOwn.cons0 ⟨rfl, rfl⟩ AllOwn.nil) rfl rfl rfl fun b37 k38 w a hk o39 hs => ?_
        rcases ite_some H with ⟨c40, H⟩ | ⟨_, H⟩
        rotate_left
        · cases H
        refine sap 3 (xs := u13) (ys := [(IntKind.wrap .u8 (Int.fdiv x0 (2 ^ min (w64 (8 * u12)).toNat 64)))]) (flat_flat : ((Lay.int .u8)).Flat) hs rfl o15 o39.view (hs.hasG (k := 4) rfl) rfl hk rfl rfl rfl rfl rfl rfl un74 mk5 rfl rfl rfl c40 fun A41 p42 k43 w a hk o44 hs => ?_
        refine sa _ rfl hk rfl rfl rfl fun a hk => ?_
        show wpList _ _ _ [] _ _
        refine wpList_nil ?_
        refine hK34 _ _ ?_
        apply wp_region_lit
        refine sv (.int .i64 (w64 (u12 + 1))) hk rfl rfl rfl fun a hk => ?_
        refine sm _ rfl hk rfl rfl rfl fun a hk => ?_
        show wpList _ _ _ [] _ _
        refine wpList_nil ?_
        obtain rfl := Option.some.inj H
        obtain ⟨m45, hmm45, h30⟩ := h30
        show ∃ n', n' < _ ∧ I27 n' _ _
        refine ⟨m45, hmm45, ?_⟩
        rw [hI27]
        exact ⟨(u13 ++ ([(IntKind.wrap .u8 (Int.fdiv x0 (2 ^ min (w64 (8 * u12)).toNat 64)))])), (w64 (u12 + 1)), A41, p42, _, h30, (hk.c 0 rfl (hk.c 5 rfl (hk.c 7 rfl (hk.c 8 rfl hk.k)))), (hs.pick [(3, 3)] rfl), o44⟩
      · have hk := hk.lit 9 c33 rfl
        refine cnd_false hk rfl rfl ?_
        refine wp_exit ?_
        obtain rfl := Option.some.inj H
        show R26 _ _
        rw [hR26]
        exact ⟨u13, A16, p17, _, h30.symm, (hk.c 5 rfl hk.k), (hs.pick [(3, 3)] rfl), o15⟩
  · intro a w hR0
    rw [hR26] at hR0
    obtain ⟨u18, A21, p22, k19, rfl, hk, hs, o20⟩ := hR0
    have H := HL25
    try dsimp only at H
    refine hK3 _ _ ?_
    apply wp_seq_k; intro K46 hK46
    apply wp_region_lit
    refine sm _ rfl hk rfl rfl rfl fun a hk => ?_
    refine sbt (xs := u18) rfl hk rfl rfl rfl rfl un74 un5 un9 o20.view (hs.hasG (k := 3) rfl) fun a hk => ?_
    refine sa _ rfl hk rfl rfl rfl fun a hk => ?_
    show wpList _ _ _ [] _ _
    refine wpList_nil ?_
    refine hK46 _ _ ?_
    refine wp_ret ?_
    obtain rfl := Option.some.inj H
    exact fin hk _ [(.string (strOfNums u18))] rfl ⟨rfl, trivial⟩ ⟨rfl, (hs.pick [] rfl).dnil⟩

noncomputable def impl_intsText.s0 (l0 : List Int) (u1 : Int) (u2 : ByteArray) : Option ((Int × ByteArray) ⊕ Ex (ByteArray) (ByteArray)) :=
  (bif (decide (u1 < (l0.length : Int))) then (if 0 ≤ u1 ∧ u1 < (l0.length : Int) then ((impl_little.f (l0.getD u1.toNat 0) 4).bind fun y => (if u2.size + y.size ≤ 1073741824 then (some (.inl ((w64 (u1 + 1)), (u2 ++ y)))) else none)) else none) else (some (.inr (.out u2))))
noncomputable def impl_intsText.f (l0 : List Int) : Option (ByteArray) :=
  ((loopO (fun s => impl_intsText.s0 l0 s.1 s.2) (0, (⟨#[]⟩ : ByteArray))).bind fun o => match o with | .out u => (some u) | .ret r => (some r))
set_option maxRecDepth 100000 in
set_option maxHeartbeats 0 in
theorem impl_intsText_n : True := trivial
section
open Go.Shelf
theorem bsz : (Try.prog.info? 188).map (·.size) = some 2 := by kernel_rfl
theorem bli : liesAt Try.prog Try.prog.depth 188 (2 / Try.prog.cellsOf 188) 0 188 1 = true := by kernel_rfl
set_option maxHeartbeats 1000000 in
set_option maxRecDepth 100000 in
theorem cc_used (b : Nat) (w : World) (h0 : w.cell? ⟨b, 0, none⟩ = some (.pointer (some ⟨b, 0, none⟩))) :
    Calls Try.prog 192 #[.pointer (some ⟨b, 0, none⟩)] w fun e w' => e = .returned (.tuple #[]) ∧ w' = w := by
  obtain ⟨j, hj, _⟩ := Option.map_eq_some_iff.1 bsz
  go_enter Try.func192, Try.ntmps192
  go_wp2
  rw [Lib.run_neq_ptr_same w _ Try.underlying186 hj]
  go_wp2
  go_end0
  exact ⟨rfl, rfl⟩
set_option maxHeartbeats 1000000 in
set_option maxRecDepth 100000 in
theorem cc_fresh (b : Nat) (w : World) (h0 : w.cell? ⟨b, 0, none⟩ = some (.pointer none)) (hsh : w.shape? b = some (188, 2)) (hfz : w.frozen? ⟨b, 0, none⟩ = false) :
    Calls Try.prog 192 #[.pointer (some ⟨b, 0, none⟩)] w fun e w' => e = .returned (.tuple #[]) ∧ w' = w.setCell ⟨b, 0, none⟩ (.pointer (some ⟨b, 0, none⟩)) := by
  obtain ⟨j, hj, hjs⟩ := Option.map_eq_some_iff.1 bsz
  go_enter Try.func192, Try.ntmps192
  go_wp2
  rw [Lib.run_to_unsafe w ⟨b, 0, none⟩ Try.underlying186 Try.underlying205 hj (by rw [hjs]; decide) hsh (Nat.zero_lt_succ 1)]
  simp only [Result.andThen]
  rw [Oper.upon_value]
  go_wp2
  rw [run_callFunc_extern Try.func194 (by kernel_rfl) (by kernel_rfl) (by kernel_rfl) (e := Extern.AbiNoEscape.same) (by kernel_rfl)]
  rw [Lib.run_noEscape]
  simp only [Result.andThen]
  rw [Oper.upon_value]
  go_wp2
  rw [Lib.run_from_unsafe w ⟨b, 0, none⟩ Try.underlying205 Try.underlying186 hj hsh bli]
  simp only [Result.andThen]
  rw [Oper.upon_value]
  go_wp2
  go_end0
  exact ⟨rfl, rfl⟩
theorem cc (B b : Nat) (bs : List Value) (w : World) (h : Lib.IsBuilder 188 5 B b bs w) :
    Calls Try.prog 192 #[.pointer (some ⟨b, 0, none⟩)] w fun e w' => e = .returned (.tuple #[]) ∧ (Lib.BuilderAt 188 5 B b (.pointer (some ⟨b, 0, none⟩)) bs w' ∧ Below B w w') := by
  rcases h with h | h
  · refine (cc_fresh b w h.cell0 h.shape h.frozen0).mono ?_
    rintro e w' ⟨rfl, rfl⟩
    exact ⟨rfl, h.used _, (Below.refl B w).setCell (p := ⟨b, 0, none⟩) h.1 _⟩
  · refine (cc_used b w h.cell0).mono ?_
    rintro e w' ⟨rfl, rfl⟩
    exact ⟨rfl, h, Below.refl B _⟩
set_option maxHeartbeats 2000000 in
set_option maxRecDepth 100000 in
theorem ws (B b : Nat) (bs : List Value) (s : ByteArray) (w : World) (h : Lib.IsBuilder 188 5 B b bs w) (hlen : bs.length + s.size ≤ 140737488355328) (hBw : B ≤ w.heap.size) :
    Calls Try.prog 177 #[.pointer (some ⟨b, 0, none⟩), .string s] w fun e w' => e = .returned (.tuple #[.int .i64 s.size, .nilIface]) ∧ (Lib.BuilderAt 188 5 B b (.pointer (some ⟨b, 0, none⟩)) (bs ++ Lib.strCells s) w' ∧ Below B w w') := by
  obtain ⟨i0, hi, hz0, hz1, hz2⟩ := info_parts (by kernel_rfl : (Try.prog.info? 5).map (fun i => (i.zero, i.size, i.bytes)) = some (some (.int .u8 0), 1, 1))
  have e240 : ∀ args w, (callFunc 192 args).run Try.prog w = .ok (.enter 192 args) w := enters_of Try.func192 (by kernel_rfl) rfl
  go_enter Try.func177, Try.ntmps177
  go_wp2_with (go_at_fn 192; refine (cc B b bs _ h).mono ?_)
  rintro e w1 ⟨rfl, h1, hb1⟩
  obtain ⟨hB, v, hbk, hown, hne⟩ := h1
  have c0 : w1.cell? ⟨b, 0, none⟩ = some (.pointer (some ⟨b, 0, none⟩)) := by rw [Lib.cell_of_heap hbk]; rfl
  have c1 : w1.cell? ⟨b, 1, none⟩ = some v := by rw [Lib.cell_of_heap hbk]; rfl
  go_wp2_with (at_builtin; refine Lib.wpList_append_own_string _ rfl _ _ 74 9 rfl B 5 i0 Try.underlying74 Try.underlying9 hi hz0 hz1 hz2 _ _ _ rfl hown s rfl ?c3 ?c4 ?c5 ?_)
  case c3 => unfold maxLen; omega
  case c4 => omega
  case c5 => have := hb1.size; omega
  intro v' w2 hown' hgrow _
  have hlt : b < w1.heap.size := by
    rcases Nat.lt_or_ge b w1.heap.size with h' | h'
    · exact h'
    · simp [Array.getElem?_eq_none h'] at hbk
  have hb2 : w2.heap[b]? = some (.cells #[.pointer (some ⟨b, 0, none⟩), v] 188 (0, 0)) := by
    rw [hgrow.block b hlt (fun e => hne e.symm)]
    exact hbk
  have d0 : w2.cell? ⟨b, 0, none⟩ = some (.pointer (some ⟨b, 0, none⟩)) := by rw [Lib.cell_of_heap hb2]; rfl
  have d1 : w2.cell? ⟨b, 1, none⟩ = some v := by rw [Lib.cell_of_heap hb2]; rfl
  have f1 : w2.frozen? ⟨b, 1, none⟩ = false := Lib.frozen_of_heap hb2 1
  obtain ⟨ao, n', cap, rfl⟩ : ∃ ao n' cap, v' = .slice ao n' cap := by
    rcases hown'.2 with ⟨hv, _⟩ | ⟨g, cap, cur, hv, _⟩
    · exact ⟨_, _, _, hv⟩
    · exact ⟨_, _, _, hv⟩
  go_wp2
  go_ret2
  refine ⟨rfl, ?_, ?_⟩
  · exact Lib.BuilderAt.put (T := 188) (e := 5) hB hb2 (bs' := bs ++ Lib.strCells s) (by simpa [Lib.strCells_length] using hown') (by decide)
  · exact (hb1.grown hgrow (by have := hb1.size; omega) (fun k hk => (hown.lt k hk).1)).setCell (p := ⟨b, 1, none⟩) hB _
def lays169_ren : Go.Shelf.Ren := ⟨fun | 169 => 179 | n => n, fun | 70 => 186 | 9 => 9 | 0 => 0 | 72 => 188 | 37 => 74 | 127 => 203 | 3 => 3 | 5 => 5 | n => n, fun | n => n⟩
theorem lays169 : Go.Proofs.Lays.n169 Try.prog lays169_ren := {
  mixed := by kernel_rfl
  f169 := Try.func179.trans (congrArg some (by kernel_rfl))
  t0 := Try.underlying0
  a0 := Try.isAgg0
  z0 := Try.sizeOf0
  v0 := Try.zeroValue0
  t3 := Try.underlying3
  a3 := Try.isAgg3
  z3 := Try.sizeOf3
  v3 := Try.zeroValue3
  t9 := Try.underlying9
  a9 := Try.isAgg9
  z9 := Try.sizeOf9
  v9 := Try.zeroValue9
  t37 := Try.underlying74
  a37 := Try.isAgg74
  z37 := Try.sizeOf74
  v37 := Try.zeroValue74
  t70 := Try.underlying186
  a70 := Try.isAgg186
  z70 := Try.sizeOf186
  v70 := Try.zeroValue186
  t72 := Try.underlying188
  a72 := Try.isAgg188
  z72 := Try.sizeOf188
  v72 := Try.zeroValue188
  t127 := Try.underlying203
  a127 := Try.isAgg203
  z127 := Try.sizeOf203
  v127 := Try.zeroValue203 }
theorem Builder_Extra_169 : Builder.Extra Try.prog lays169_ren := {
  sizeBuilder := by kernel_rfl
  liesBuilder := by kernel_rfl
  t5 := Try.underlying5
  a5 := Try.isAgg5
  z5 := Try.sizeOf5
  v5 := Try.zeroValue5
  infoByte := by kernel_rfl
  cellsByte := by kernel_rfl
  sizeByte := by kernel_rfl
  neB5 := by decide }
open Go.RowKit in
theorem Builder_String (B b : Nat) (l : List UInt8) (w : World) (h : Lib.IsBuilder 188 5 B b (Lib.byteCells l) w) (h0 : l ≠ []) :
    Calls Try.prog 179 #[.pointer (some ⟨b, 0, none⟩)] w fun e w' => e = .returned (.string ⟨l.toArray⟩) ∧ Below B w w' := Any.Builder_String lays169 Builder_Extra_169 B b l w h h0
open Go.RowKit in
theorem Builder_String_empty (B b : Nat) (w : World) (h : Lib.IsBuilder 188 5 B b [] w) (hBw : B ≤ w.heap.size) :
    Calls Try.prog 179 #[.pointer (some ⟨b, 0, none⟩)] w fun e w' => e = .returned (.string ⟨#[]⟩) ∧ Below B w w' := Any.Builder_String_empty lays169 Builder_Extra_169 B b w h hBw
open Go.RowKit in
theorem Builder_String_any (B b : Nat) (l : List UInt8) (w : World) (h : Lib.IsBuilder 188 5 B b (Lib.byteCells l) w) (hBw : B ≤ w.heap.size) :
    Calls Try.prog 179 #[.pointer (some ⟨b, 0, none⟩)] w fun e w' => e = .returned (.string ⟨l.toArray⟩) ∧ Below B w w' := Any.Builder_String_any lays169 Builder_Extra_169 B b l w h hBw
end
set_option maxRecDepth 100000 in
set_option maxHeartbeats 1000000 in
theorem impl_intsText_t (w0 : World) (A0_ : Option Addr) (p0_ : Nat) (l0 : List Int) (k0_ : Chunk) (v0_ : View (Lay.int .i64) A0_ p0_ l0 k0_) (w0_ : Has w0 k0_) (r : ByteArray) (H : impl_intsText.f l0 = some r) :
    Calls Try.prog 151 #[.slice A0_ l0.length p0_] w0 (Ret (fun v w => v = .string r ∧ Sat [] w0 w [] [])) := by
  unfold impl_intsText.f at H
  refine enter Try.func151 rfl Try.ntmps151 rfl fun a hk => ?_
  apply wp_seq_k; intro K1 hK1
  apply wp_region_lit
  refine sa _ rfl hk rfl rfl rfl fun a hk => ?_
  show wpList _ _ _ [] _ _
  refine wpList_nil ?_
  refine hK1 _ _ ?_
  apply wp_seq_k; intro K2 hK2
  apply wp_region_lit
  refine sal rfl hk rfl rfl (by kernel_rfl : zeroB Try.prog 188 = some (.agg #[.pointer none, .slice none 0 0])) fun a hk => ?_
  show wpList _ _ _ [] _ _
  refine wpList_nil ?_
  refine hK2 _ _ ?_
  have hgen : ∃ w b, w = (w0.alloc (.cells (Value.cells (.agg #[.pointer none, .slice none 0 0])) 188)) ∧ b = w0.heap.size ∧ Lib.IsBuilder 188 5 w0.heap.size b (Lib.byteCells (⟨#[]⟩ : ByteArray).data.toList) w ∧ Below w0.heap.size w0 w :=
    ⟨_, _, rfl, rfl, Lib.fresh_isBuilder 188 5 w0, (Below.refl _ w0).alloc (Nat.le_refl _) _⟩
  obtain ⟨w, b, ew, eb, hb, hbel⟩ := hgen
  rw [← eb] at hk
  rw [← ew]
  clear ew eb
  apply wp_seq_k; intro K3 hK3
  apply wp_seq_k; intro K4 hK4
  apply wp_region_lit
  refine sm _ rfl hk rfl rfl rfl fun a hk => ?_
  refine sle rfl hk rfl rfl rfl un31 fun a hk => ?_
  refine sm _ rfl hk rfl rfl rfl fun a hk => ?_
  show wpList _ _ _ [] _ _
  refine wpList_nil ?_
  refine hK4 _ _ ?_
  obtain ⟨o, h, HL⟩ := bind_some H
  clear H
  obtain ⟨R, hR⟩ : ∃ R : Act → World → Prop, R = fun a w => ∃ u : ByteArray, o = .out u ∧ Kn [(3, .pointer (some ⟨b, 0, none⟩))] 17 a ∧ Lib.IsBuilder 188 5 w0.heap.size b (Lib.byteCells u.data.toList) w ∧ Below w0.heap.size w0 w := ⟨_, rfl⟩
  refine wp_cutq R ?_ ?_
  · refine wp_block ?_
    obtain ⟨fu, h⟩ := loopO_some h
    obtain ⟨I, hI⟩ : ∃ I : Nat → Act → World → Prop, I = fun fu a w => ∃ (u1 : Int) (u2 : ByteArray), loopN (fun s => impl_intsText.s0 l0 s.1 s.2) fu (u1, u2) = some o ∧ Kn [(3, .pointer (some ⟨b, 0, none⟩)), (6, (.slice A0_ l0.length p0_)), (7, (.int .i64 (l0.length : Int))), (8, (.int .i64 u1))] 17 a ∧ Lib.IsBuilder 188 5 w0.heap.size b (Lib.byteCells u2.data.toList) w ∧ Below w0.heap.size w0 w := ⟨_, rfl⟩
    refine wp_loop_ghost I fu ?_ ?_
    · rw [hI]
      exact ⟨0, _, h, (hk.c 3 rfl (hk.c 6 rfl (hk.c 7 rfl (hk.c 8 rfl hk.k)))), hb, hbel⟩
    · clear h hk hb hbel
      intro fu a w hI0
      rw [hI] at hI0
      obtain ⟨u1, u2, hi, hk, hb, hbel⟩ := hI0
      obtain ⟨x13, H, h14⟩ := loop_round hi
      try dsimp only at H
      unfold impl_intsText.s0 at H
      apply wp_seq_k; intro K15 hK15
      apply wp_region_lit
      refine sv (.bool (decide (u1 < (l0.length : Int)))) hk rfl rfl rfl fun a hk => ?_
      show wpList _ _ _ [] _ _
      refine wpList_nil ?_
      refine hK15 _ _ ?_
      apply wp_seq_k; intro K16 hK16
      rcases cond_some H with ⟨c17, H⟩ | ⟨c17, H⟩
      · have hk := hk.lit 9 c17 rfl
        refine cnd_true hk rfl rfl ?_
        refine wp_skip ?_
        refine hK16 _ _ ?_
        apply wp_seq_k; intro K18 hK18
        refine wp_block ?_
        apply wp_seq_k; intro K19 hK19
        apply wp_region_lit
        rcases ite_some H with ⟨c21, H⟩ | ⟨_, H⟩
        rotate_left
        · cases H
        obtain ⟨b22, q23, hAc21⟩ := (v0_).some_ u1 c21.1 c21.2
        refine si rfl hk rfl rfl rfl rfl un31 sz3 c21.1 c21.2 hAc21 fun a hk => ?_
        obtain ⟨_, rfl, e24⟩ := (v0_).at_ 0 u1 c21.1 c21.2
        refine sl (v := (.int .i64 (l0.getD u1.toNat 0))) rfl hk rfl rfl rfl ag3 ((e24 0 _ rfl).cell (has_bel w0_ hbel)) fun a hk => ?_
        refine sa _ rfl hk rfl rfl rfl fun a hk => ?_
        show wpList _ _ _ [] _ _
        refine wpList_nil ?_
        refine hK19 _ _ ?_
        apply wp_region_lit
        refine sm _ rfl hk rfl rfl rfl fun a hk => ?_
        obtain ⟨y25, h26, H⟩ := bind_some H
        refine sc rfl en178 hk rfl rfl rfl (impl_little_t _ (l0.getD u1.toNat 0) 4 y25 h26) ?_
        rintro _ w2 ⟨rfl, hG⟩ a hk
        have hb2 : Lib.IsBuilder 188 5 w0.heap.size b (Lib.byteCells u2.data.toList) w2 := by
          rcases hb with hb | hb
          · exact .inl (bld_F hb hG.below)
          · exact .inr (bld_F hb hG.below)
        have hbel2 : Below w0.heap.size w0 w2 := hbel.trans (hG.below.mono hbel.size)
        rcases ite_some H with ⟨c27, H⟩ | ⟨_, H⟩
        rotate_left
        · cases H
        refine sc rfl en177 hk rfl rfl rfl ((ws w0.heap.size b _ y25 w2 hb2 (by rw [Lib.byteCells_length, ba_len]; omega) hbel2.size).mono (R' := Ret (fun v w' => v = .tuple #[.int .i64 y25.size, .nilIface] ∧ (Lib.BuilderAt 188 5 w0.heap.size b (.pointer (some ⟨b, 0, none⟩)) (Lib.byteCells u2.data.toList ++ Lib.strCells y25) w' ∧ Below w0.heap.size w2 w'))) (fun e w' h => ⟨_, h.1, rfl, h.2⟩)) ?_
        rintro _ w3 ⟨rfl, hb3, hbel3⟩ a hk
        show wpList _ _ _ [] _ _
        refine wpList_nil ?_
        refine hK18 _ _ ?_
        apply wp_region_lit
        refine sv (.int .i64 (w64 (u1 + 1))) hk rfl rfl rfl fun a hk => ?_
        refine sm _ rfl hk rfl rfl rfl fun a hk => ?_
        show wpList _ _ _ [] _ _
        refine wpList_nil ?_
        obtain rfl := Option.some.inj H
        obtain ⟨m, hmm, h14⟩ := h14
        show ∃ n', n' < _ ∧ I n' _ _
        refine ⟨m, hmm, ?_⟩
        rw [hI]
        exact ⟨_, _, h14, (hk.c 3 rfl (hk.c 6 rfl (hk.c 7 rfl (hk.c 8 rfl hk.k)))), .inr (by rw [bc_app]; exact hb3), hbel2.trans hbel3⟩
      · have hk := hk.lit 9 c17 rfl
        refine cnd_false hk rfl rfl ?_
        refine wp_exit ?_
        obtain rfl := Option.some.inj H
        show R _ _
        rw [hR]
        exact ⟨_, h14.symm, (hk.c 3 rfl hk.k), hb, hbel⟩
  · intro a w hR0
    rw [hR] at hR0
    obtain ⟨u, rfl, hk, hb, hbel⟩ := hR0
    have H := HL
    try dsimp only at H
    obtain rfl := Option.some.inj H
    refine hK3 _ _ ?_
    apply wp_seq_k; intro K5 hK5
    apply wp_region_lit
    refine sc rfl en179 hk rfl rfl rfl ((Builder_String_any w0.heap.size b _ w hb hbel.size).mono (R' := Ret (fun v w' => v = .string u ∧ Below w0.heap.size w w')) (fun e w' h => ⟨_, h.1, rfl, h.2⟩)) ?_
    rintro _ w4 ⟨rfl, hbel4⟩ a hk
    refine sa _ rfl hk rfl rfl rfl fun a hk => ?_
    show wpList _ _ _ [] _ _
    refine wpList_nil ?_
    refine hK5 _ _ ?_
    refine wp_ret ?_
    exact fin hk _ [(.string u)] rfl ⟨rfl, trivial⟩ ⟨rfl, Sat.ofBelow (hbel.trans hbel4)⟩

noncomputable def impl_textOf.f (l0 : List Int) (x1 : Int) : Option (ByteArray) :=
  (if 0 ≤ (w64 (x1 - (l0.length : Int))) ∧ l0.length + (w64 (x1 - (l0.length : Int))).toNat ≤ 1073741824 then ((impl_intsText.f (l0 ++ List.replicate (w64 (x1 - (l0.length : Int))).toNat 0)).bind fun y8 => (some y8)) else none)
set_option maxRecDepth 100000 in
set_option maxHeartbeats 0 in
theorem impl_textOf_t (w0 : World) (A0_ : Option Addr) (p0_ : Nat) (l0 : List Int) (k0_ : Chunk) (v0_ : Own (Lay.int .i64) 3 A0_ p0_ l0 k0_) (x1 : Int) (hs0 : Sat (blks [(1, k0_)]) w0 w0 [] [(1, k0_)]) (r : ByteArray) (H : impl_textOf.f l0 x1 = some r) :
    Calls Try.prog 108 #[.slice A0_ l0.length p0_, .int .i64 x1] w0 (Ret (fun v w => v = .string r ∧ Sat (blks [(1, k0_)]) w0 w [] [])) := by
  have hs := hs0
  unfold impl_textOf.f at H
  refine enter Try.func108 rfl Try.ntmps108 rfl fun a hk => ?_
  apply wp_seq_k; intro K1 hK1
  apply wp_region_lit
  refine sa _ rfl hk rfl rfl rfl fun a hk => ?_
  show wpList _ _ _ [] _ _
  refine wpList_nil ?_
  refine hK1 _ _ ?_
  apply wp_seq_k; intro K2 hK2
  apply wp_region_lit
  refine sm _ rfl hk rfl rfl rfl fun a hk => ?_
  refine sm _ rfl hk rfl rfl rfl fun a hk => ?_
  refine sm _ rfl hk rfl rfl rfl fun a hk => ?_
  refine sle rfl hk rfl rfl rfl un31 fun a hk => ?_
  refine sv (.int .i64 (w64 (x1 - (l0.length : Int)))) hk rfl rfl rfl fun a hk => ?_
  rcases ite_some H with ⟨c3, H⟩ | ⟨_, H⟩
  rotate_left
  · cases H
  refine sapn 1 (xs := l0) (z := 0) hs rfl v0_ (by first | exact ⟨rfl, rfl⟩ | exact lz3) rfl hk rfl rfl rfl rfl rfl un31 un3 mk3 rfl rfl rfl c3 fun A4 p5 k6 w a hk o7 hs => ?_
  obtain ⟨y8, h9, H⟩ := bind_some H
  refine sc rfl en151 hk rfl rfl rfl (impl_intsText_t _ A4 p5 (l0 ++ List.replicate (w64 (x1 - (l0.length : Int))).toNat 0) _ o7.view (hs.hasG (k := 1) rfl) _ h9) ?_
  rintro _ w ⟨rfl, hG⟩ a hk
  have hs := hs.call0 hG
  refine sa _ rfl hk rfl rfl rfl fun a hk => ?_
  show wpList _ _ _ [] _ _
  refine wpList_nil ?_
  refine hK2 _ _ ?_
  refine wp_ret ?_
  obtain rfl := Option.some.inj H
  exact fin hk _ [(.string y8)] rfl ⟨rfl, trivial⟩ ⟨rfl, (hs.pick [] rfl).dnil⟩

end Go.Proofs.Ytmgfkpfacdlfbaa
