/- The functions that FnExactMapTxn reaches: for each a model and the walk that shows that the Go code comes to it. -/
import Derived.Test.YtlbbkehdfgjneaaT
namespace Go.Proofs.Ytlbbkehdfgjneaa
open Go Go.Z Go.Proofs Go.MuLone Go.ChangeShapes Go.WideShapes Go.ChangeAt Go.RowKit
set_option linter.unusedVariables false
set_option linter.unusedSimpArgs false
noncomputable def laws_szEntryS.f (l0 : List S_Entry) (x1 : Int) : Option (Int) :=
  (bif (decide ((w64 (x1 - (l0.length : Int))) < 0)) then (some (-1)) else (some (w64 (x1 - (l0.length : Int)))))
set_option maxRecDepth 100000 in
set_option maxHeartbeats 0 in
theorem laws_szEntryS_t (w0 : World) (A0_ : Option Addr) (p0_ : Nat) (l0 : List S_Entry) (k0_ : Chunk) (v0_ : View L_Entry A0_ p0_ l0 k0_) (w0_ : Has w0 k0_) (x1 : Int) (r : Int) (H : laws_szEntryS.f l0 x1 = some r) :
    Calls Try.prog 11 #[.slice A0_ l0.length p0_, .int .i64 x1] w0 (Ret (fun v w => v = .int .i64 r ∧ Sat [] w0 w [] [])) := by
  have hs : Sat [] w0 w0 [(1, k0_)] [] := Sat.init w0 [(1, k0_)] [] (by simp only [List.mem_cons, List.not_mem_nil, or_false]; rintro x (rfl) <;> assumption) (by simp) List.nodup_nil (by simp [blks])
  unfold laws_szEntryS.f at H
  refine enter Try.func11 rfl Try.ntmps11 rfl fun a hk => ?_
  apply wp_seq_k; intro K1 hK1
  apply wp_region_lit
  refine sa _ rfl hk rfl rfl rfl fun a hk => ?_
  show wpList _ _ _ [] _ _
  refine wpList_nil ?_
  refine hK1 _ _ ?_
  apply wp_seq_k; intro K2 hK2
  apply wp_region_lit
  refine sm _ rfl hk rfl rfl rfl fun a hk => ?_
  refine sm _ rfl hk rfl rfl rfl fun a hk => ?_
  refine sle rfl hk rfl rfl rfl un22 fun a hk => ?_
  refine sv (.int .i64 (w64 (x1 - (l0.length : Int)))) hk rfl rfl rfl fun a hk => ?_
  refine sa _ rfl hk rfl rfl rfl fun a hk => ?_
  show wpList _ _ _ [] _ _
  refine wpList_nil ?_
  refine hK2 _ _ ?_
  apply wp_seq_k; intro K3 hK3
  apply wp_seq_k; intro K4 hK4
  apply wp_region_lit
  refine sm _ rfl hk rfl rfl rfl fun a hk => ?_
  refine sv (.bool (decide ((w64 (x1 - (l0.length : Int))) < 0))) hk rfl rfl rfl fun a hk => ?_
  show wpList _ _ _ [] _ _
  refine wpList_nil ?_
  refine hK4 _ _ ?_
  rcases cond_some H with ⟨c5, H⟩ | ⟨c5, H⟩
  · have hk := hk.lit 10 c5 rfl
    refine cnd_true hk rfl rfl ?_
    apply wp_seq_k; intro K6 hK6
    apply wp_region_lit
    refine sa _ rfl hk rfl rfl rfl fun a hk => ?_
    show wpList _ _ _ [] _ _
    refine wpList_nil ?_
    refine hK6 _ _ ?_
    refine wp_ret ?_
    obtain rfl := Option.some.inj H
    exact fin hk _ [(.int .i64 (-1))] rfl ⟨rfl, trivial⟩ ⟨rfl, (hs.pick [] rfl).dnil⟩
  · have hk := hk.lit 10 c5 rfl
    refine cnd_false hk rfl rfl ?_
    refine wp_skip ?_
    refine hK3 _ _ ?_
    apply wp_seq_k; intro K7 hK7
    apply wp_region_lit
    refine sm _ rfl hk rfl rfl rfl fun a hk => ?_
    refine sa _ rfl hk rfl rfl rfl fun a hk => ?_
    show wpList _ _ _ [] _ _
    refine wpList_nil ?_
    refine hK7 _ _ ?_
    refine wp_ret ?_
    obtain rfl := Option.some.inj H
    exact fin hk _ [(.int .i64 (w64 (x1 - (l0.length : Int))))] rfl ⟨rfl, trivial⟩ ⟨rfl, (hs.pick [] rfl).dnil⟩

noncomputable def laws_toEntry.f (x0 : S_Entry) : Option (S_Entry) :=
  (some (⟨x0.Key, x0.Value⟩ : S_Entry))
set_option maxRecDepth 100000 in
set_option maxHeartbeats 0 in
theorem laws_toEntry_t (w0 : World) (x0 : S_Entry) (r : S_Entry) (H : laws_toEntry.f x0 = some r) :
    Calls Try.prog 66 #[.agg #[.int .i64 x0.Key, .int .i64 x0.Value]] w0 (Ret (fun v w => v = .agg #[.int .i64 r.Key, .int .i64 r.Value] ∧ Sat [] w0 w [] [])) := by
  have hs : Sat [] w0 w0 [] [] := Sat.init w0 [] [] (by simp) (by simp) List.nodup_nil (by simp [blks])
  unfold laws_toEntry.f at H
  refine enter Try.func66 rfl Try.ntmps66 rfl fun a hk => ?_
  apply wp_seq_k; intro K1 hK1
  apply wp_region_lit
  refine sbx 1 hs rfl hk rfl rfl rfl rfl fun b2 w a hk hs => ?_
  refine salx 2 hs rfl hk rfl rfl ze62 rfl fun b3 w a hk hs => ?_
  show wpList _ _ _ [] _ _
  refine wpList_nil ?_
  refine hK1 _ _ ?_
  apply wp_seq_k; intro K4 hK4
  apply wp_region_lit
  refine salx 3 hs rfl hk rfl rfl ze62 rfl fun b5 w a hk hs => ?_
  show wpList _ _ _ [] _ _
  refine wpList_nil ?_
  refine hK4 _ _ ?_
  apply wp_seq_k; intro K6 hK6
  apply wp_region_lit
  refine sf ⟨b2, 0, none⟩ rfl hk rfl rfl rfl fd104_0 rfl fun a hk => ?_
  refine sl rfl hk rfl rfl rfl ag3 (box_cell hs (k := 1) rfl rfl) fun a hk => ?_
  refine sf ⟨b5, 0, none⟩ rfl hk rfl rfl rfl fd62_0 rfl fun a hk => ?_
  refine ssx (cs' := #[.int .i64 x0.Key, .int .i64 0]) 3 hs rfl rfl hk rfl rfl rfl rfl sz3 rfl rfl rfl rfl fun w a hk hs => ?_
  show wpList _ _ _ [] _ _
  refine wpList_nil ?_
  refine hK6 _ _ ?_
  apply wp_seq_k; intro K7 hK7
  apply wp_region_lit
  refine sf ⟨b2, 1, none⟩ rfl hk rfl rfl rfl fd104_1 rfl fun a hk => ?_
  refine sl rfl hk rfl rfl rfl ag3 (box_cell hs (k := 1) rfl rfl) fun a hk => ?_
  refine sf ⟨b5, 1, none⟩ rfl hk rfl rfl rfl fd62_1 rfl fun a hk => ?_
  refine ssx (cs' := #[.int .i64 x0.Key, .int .i64 x0.Value]) 3 hs rfl rfl hk rfl rfl rfl rfl sz3 rfl rfl rfl rfl fun w a hk hs => ?_
  show wpList _ _ _ [] _ _
  refine wpList_nil ?_
  refine hK7 _ _ ?_
  apply wp_seq_k; intro K8 hK8
  apply wp_region_lit
  refine sln [.int .i64 x0.Key, .int .i64 x0.Value] rfl hk rfl rfl rfl ag62 sz62 (box_cells hs (k := 3) rfl) fun a hk => ?_
  refine ssw 2 hs rfl rfl hk rfl rfl rfl rfl sz62 (by simp [Value.oneCell']) rfl fun w a hk hs => ?_
  show wpList _ _ _ [] _ _
  refine wpList_nil ?_
  refine hK8 _ _ ?_
  refine wp_ret ?_
  obtain rfl := Option.some.inj H
  exact fin hk _ [(.agg #[.int .i64 x0.Key, .int .i64 x0.Value])] rfl ⟨⟨_, rfl, run_loadN ag62 sz62 (box_cells hs (k := 2) rfl)⟩, trivial⟩ ⟨rfl, (hs.pick [] rfl).dnil⟩

noncomputable def laws_toEntryS.s0 (l0 : List S_Entry) (u12 : List S_Entry) (u16 : Int) : Option (((List S_Entry) × Int) ⊕ Ex ((List S_Entry)) ((List S_Entry))) :=
  (bif (decide (u16 < (l0.length : Int))) then (if 0 ≤ u16 ∧ u16 < (l0.length : Int) then ((laws_toEntry.f (l0.getD u16.toNat z_Entry)).bind fun y37 => (if 0 ≤ u16 ∧ u16 < ((((l0.length : Int)).toNat) : Int) then (some (.inl ((u12.set u16.toNat y37), (w64 (u16 + 1))))) else none)) else none) else (some (.inr (.out u12))))
noncomputable def laws_toEntryS.f (l0 : List S_Entry) : Option ((List S_Entry)) :=
  (if 0 ≤ (l0.length : Int) ∧ (l0.length : Int) ≤ 1073741824 then ((loopO (fun s => laws_toEntryS.s0 l0 s.1 s.2) ((List.replicate ((l0.length : Int)).toNat z_Entry), 0)).bind fun o => match o with | .out u17 => (some u17) | .ret r => (some r)) else none)
set_option maxRecDepth 100000 in
set_option maxHeartbeats 0 in
theorem laws_toEntryS_t (w0 : World) (A0_ : Option Addr) (p0_ : Nat) (l0 : List S_Entry) (k0_ : Chunk) (v0_ : View L_Entry A0_ p0_ l0 k0_) (w0_ : Has w0 k0_) (r : (List S_Entry)) (H : laws_toEntryS.f l0 = some r) :
    Calls Try.prog 13 #[.slice A0_ l0.length p0_] w0 (Ret (fun v w => ∃ (A0 : Option Addr) (p0 : Nat) (k0 : Chunk), v = .slice A0 r.length p0 ∧ Own L_Entry 62 A0 p0 r k0 ∧ Sat [] w0 w [] [(0, k0)])) := by
  have hs : Sat [] w0 w0 [(1, k0_)] [] := Sat.init w0 [(1, k0_)] [] (by simp only [List.mem_cons, List.not_mem_nil, or_false]; rintro x (rfl) <;> assumption) (by simp) List.nodup_nil (by simp [blks])
  unfold laws_toEntryS.f at H
  refine enter Try.func13 rfl Try.ntmps13 rfl fun a hk => ?_
  apply wp_seq_k; intro K1 hK1
  apply wp_region_lit
  refine sa _ rfl hk rfl rfl rfl fun a hk => ?_
  show wpList _ _ _ [] _ _
  refine wpList_nil ?_
  refine hK1 _ _ ?_
  apply wp_seq_k; intro K2 hK2
  apply wp_region_lit
  refine sm _ rfl hk rfl rfl rfl fun a hk => ?_
  refine sle rfl hk rfl rfl rfl un22 fun a hk => ?_
  rcases ite_some H with ⟨c3, H⟩ | ⟨_, H⟩
  rotate_left
  · cases H
  refine smk 2 L_Entry hs rfl hk rfl rfl rfl rfl un26 mk62 lz62 rfl rfl c3.1 c3.2 fun b4 k5 w a hk o6 hs => ?_
  have lh7 : (List.replicate ((l0.length : Int)).toNat z_Entry).length = ((l0.length : Int)).toNat := List.length_replicate
  refine sa _ rfl hk rfl rfl rfl fun a hk => ?_
  show wpList _ _ _ [] _ _
  refine wpList_nil ?_
  refine hK2 _ _ ?_
  apply wp_seq_k; intro K8 hK8
  apply wp_seq_k; intro K9 hK9
  apply wp_region_lit
  refine sa _ rfl hk rfl rfl rfl fun a hk => ?_
  show wpList _ _ _ [] _ _
  refine wpList_nil ?_
  refine hK9 _ _ ?_
  obtain ⟨o21, h22, HL23⟩ := bind_some H
  clear H
  obtain ⟨R24, hR24⟩ : ∃ R : Act → World → Prop, R = fun a w => ∃ (u17 : List S_Entry) (k18 : Chunk), o21 = .out u17 ∧ Kn [(3, (.slice (some ⟨b4, 0, none⟩) (((l0.length : Int)).toNat) (((l0.length : Int)).toNat)))] 23 a ∧ Sat [] w0 w [(1, k0_)] [(2, k18)] ∧ Own L_Entry 62 (some ⟨b4, 0, none⟩) (((l0.length : Int)).toNat) u17 k18 ∧ u17.length = (((l0.length : Int)).toNat) := ⟨_, rfl⟩
  refine wp_cutq R24 ?_ ?_
  · refine wp_block ?_
    obtain ⟨fu26, h22⟩ := loopO_some h22
    obtain ⟨I25, hI25⟩ : ∃ I : Nat → Act → World → Prop, I = fun fu a w => ∃ (u12 : List S_Entry) (u16 : Int) (k13 : Chunk), loopN (fun s => laws_toEntryS.s0 l0 s.1 s.2) fu (u12, u16) = some o21 ∧ Kn [(0, (.slice A0_ l0.length p0_)), (3, (.slice (some ⟨b4, 0, none⟩) (((l0.length : Int)).toNat) (((l0.length : Int)).toNat))), (4, (.int .i64 u16))] 23 a ∧ Sat [] w0 w [(1, k0_)] [(2, k13)] ∧ Own L_Entry 62 (some ⟨b4, 0, none⟩) (((l0.length : Int)).toNat) u12 k13 ∧ u12.length = (((l0.length : Int)).toNat) := ⟨_, rfl⟩
    refine wp_loop_ghost I25 fu26 ?_ ?_
    · rw [hI25]
      exact ⟨(List.replicate ((l0.length : Int)).toNat z_Entry), 0, _, h22, (hk.c 0 rfl (hk.c 3 rfl (hk.c 4 rfl hk.k))), (hs.pick [(2, 2)] rfl), o6, lh7⟩
    · clear h22 hk hs
      intro fu26 a w hI0
      rw [hI25] at hI0
      obtain ⟨u12, u16, k13, hi, hk, hs, o14, lh15⟩ := hI0
      obtain ⟨x27, H, h28⟩ := loop_round hi
      try dsimp only at H
      unfold laws_toEntryS.s0 at H
      apply wp_seq_k; intro K29 hK29
      apply wp_seq_k; intro K30 hK30
      apply wp_region_lit
      refine sm _ rfl hk rfl rfl rfl fun a hk => ?_
      refine sm _ rfl hk rfl rfl rfl fun a hk => ?_
      refine sle rfl hk rfl rfl rfl un22 fun a hk => ?_
      refine sv (.bool (decide (u16 < (l0.length : Int)))) hk rfl rfl rfl fun a hk => ?_
      show wpList _ _ _ [] _ _
      refine wpList_nil ?_
      refine hK30 _ _ ?_
      rcases cond_some H with ⟨c31, H⟩ | ⟨c31, H⟩
      · have hk := hk.lit 11 c31 rfl
        refine cnd_true hk rfl rfl ?_
        refine wp_skip ?_
        refine hK29 _ _ ?_
        apply wp_seq_k; intro K32 hK32
        refine wp_block ?_
        apply wp_region_lit
        refine sm _ rfl hk rfl rfl rfl fun a hk => ?_
        refine sm _ rfl hk rfl rfl rfl fun a hk => ?_
        refine sm _ rfl hk rfl rfl rfl fun a hk => ?_
        refine sm _ rfl hk rfl rfl rfl fun a hk => ?_
        rcases ite_some H with ⟨c33, H⟩ | ⟨_, H⟩
        rotate_left
        · cases H
        obtain ⟨b34, q35, hAc33⟩ := (v0_).some_ u16 c33.1 c33.2
        refine si rfl hk rfl rfl rfl rfl un22 sz104 c33.1 c33.2 hAc33 fun a hk => ?_
        obtain ⟨_, rfl, e36⟩ := (v0_).at_ z_Entry u16 c33.1 c33.2
        refine sln [.int .i64 ((l0.getD u16.toNat z_Entry).Key), .int .i64 ((l0.getD u16.toNat z_Entry).Value)] rfl hk rfl rfl rfl ag104 sz104 (cells_at e36 (hs.hasD (k := 1) rfl)) fun a hk => ?_
        obtain ⟨y37, h38, H⟩ := bind_some H
        refine sc rfl en66 hk rfl rfl rfl (laws_toEntry_t _ (l0.getD u16.toNat z_Entry) _ h38) ?_
        rintro _ w ⟨rfl, hG⟩ a hk
        have hs := hs.call0 hG
        rcases ite_some H with ⟨c39, H⟩ | ⟨_, H⟩
        rotate_left
        · cases H
        obtain ⟨b40, q41, hAc39⟩ := (o14.view).some_ u16 c39.1 (by rw [lh15]; exact c39.2)
        refine si rfl hk rfl rfl rfl rfl un26 sz62 c39.1 c39.2 hAc39 fun a hk => ?_
        refine so (j := 0) 2 z_Entry y37 hs rfl o14 c39.1 (by rw [lh15]; exact c39.2) rfl hk rfl rfl rfl rfl rfl sz62 (by simp [Value.cells, Value.oneCell']) (Nat.le_of_ble_eq_true rfl) (fun _ _ h => ⟨by rw [h.1]; rfl, h.2⟩) fun k42 w a hk o43 hs => ?_
        have lh44 : (u12.set u16.toNat y37).length = (((l0.length : Int)).toNat) := by rw [List.length_set]; exact lh15
        show wpList _ _ _ [] _ _
        refine wpList_nil ?_
        refine hK32 _ _ ?_
        apply wp_region_lit
        refine sm _ rfl hk rfl rfl rfl fun a hk => ?_
        refine sv (.int .i64 (w64 (u16 + 1))) hk rfl rfl rfl fun a hk => ?_
        refine sa _ rfl hk rfl rfl rfl fun a hk => ?_
        show wpList _ _ _ [] _ _
        refine wpList_nil ?_
        obtain rfl := Option.some.inj H
        obtain ⟨m45, hmm45, h28⟩ := h28
        show ∃ n', n' < _ ∧ I25 n' _ _
        refine ⟨m45, hmm45, ?_⟩
        rw [hI25]
        exact ⟨(u12.set u16.toNat y37), (w64 (u16 + 1)), _, h28, (hk.c 0 rfl (hk.c 3 rfl (hk.c 4 rfl hk.k))), (hs.pick [(2, 2)] rfl), o43, lh44⟩
      · have hk := hk.lit 11 c31 rfl
        refine cnd_false hk rfl rfl ?_
        refine wp_exit ?_
        obtain rfl := Option.some.inj H
        show R24 _ _
        rw [hR24]
        exact ⟨u12, _, h28.symm, (hk.c 3 rfl hk.k), (hs.pick [(2, 2)] rfl), o14, lh15⟩
  · intro a w hR0
    rw [hR24] at hR0
    obtain ⟨u17, k18, rfl, hk, hs, o19, lh20⟩ := hR0
    have H := HL23
    try dsimp only at H
    refine hK8 _ _ ?_
    apply wp_seq_k; intro K46 hK46
    apply wp_region_lit
    refine sm _ rfl hk rfl rfl rfl fun a hk => ?_
    refine sa _ rfl hk rfl rfl rfl fun a hk => ?_
    show wpList _ _ _ [] _ _
    refine wpList_nil ?_
    refine hK46 _ _ ?_
    refine wp_ret ?_
    obtain rfl := Option.some.inj H
    exact fin hk _ [(.slice (some ⟨b4, 0, none⟩) (((l0.length : Int)).toNat) (((l0.length : Int)).toNat))] rfl ⟨rfl, trivial⟩ ⟨(some ⟨b4, 0, none⟩), (((l0.length : Int)).toNat), _, (by first | (rw [lh20]; done) | (rw [lh20]; rfl)), o19, (hs.pick [(0, 2)] rfl).dnil⟩

noncomputable def laws_eqEntry.f (x0 : S_Entry) (x1 : S_Entry) : Option (Bool) :=
  (bif (x0.Key != x1.Key) then (some false) else (bif (x0.Value != x1.Value) then (some false) else (some true)))
set_option maxRecDepth 100000 in
set_option maxHeartbeats 0 in
theorem laws_eqEntry_t (w0 : World) (x0 : S_Entry) (x1 : S_Entry) (r : Bool) (H : laws_eqEntry.f x0 x1 = some r) :
    Calls Try.prog 70 #[.agg #[.int .i64 x0.Key, .int .i64 x0.Value], .agg #[.int .i64 x1.Key, .int .i64 x1.Value]] w0 (Ret (fun v w => v = .bool r ∧ Sat [] w0 w [] [])) := by
  have hs : Sat [] w0 w0 [] [] := Sat.init w0 [] [] (by simp) (by simp) List.nodup_nil (by simp [blks])
  unfold laws_eqEntry.f at H
  refine enter Try.func70 rfl Try.ntmps70 rfl fun a hk => ?_
  apply wp_seq_k; intro K1 hK1
  apply wp_region_lit
  refine sbx 1 hs rfl hk rfl rfl rfl rfl fun b2 w a hk hs => ?_
  refine sbx 2 hs rfl hk rfl rfl rfl rfl fun b3 w a hk hs => ?_
  refine sa _ rfl hk rfl rfl rfl fun a hk => ?_
  show wpList _ _ _ [] _ _
  refine wpList_nil ?_
  refine hK1 _ _ ?_
  apply wp_seq_k; intro K4 hK4
  apply wp_seq_k; intro K5 hK5
  apply wp_region_lit
  refine sf ⟨b2, 0, none⟩ rfl hk rfl rfl rfl fd62_0 rfl fun a hk => ?_
  refine sl rfl hk rfl rfl rfl ag3 (box_cell hs (k := 1) rfl rfl) fun a hk => ?_
  refine sf ⟨b3, 0, none⟩ rfl hk rfl rfl rfl fd62_0 rfl fun a hk => ?_
  refine sl rfl hk rfl rfl rfl ag3 (box_cell hs (k := 2) rfl rfl) fun a hk => ?_
  refine sv (.bool (x0.Key != x1.Key)) hk rfl rfl rfl fun a hk => ?_
  show wpList _ _ _ [] _ _
  refine wpList_nil ?_
  refine hK5 _ _ ?_
  rcases cond_some H with ⟨c6, H⟩ | ⟨c6, H⟩
  · have hk := hk.lit 9 c6 rfl
    refine cnd_true hk rfl rfl ?_
    apply wp_seq_k; intro K7 hK7
    apply wp_region_lit
    refine sa _ rfl hk rfl rfl rfl fun a hk => ?_
    show wpList _ _ _ [] _ _
    refine wpList_nil ?_
    refine hK7 _ _ ?_
    refine wp_ret ?_
    obtain rfl := Option.some.inj H
    exact fin hk _ [(.bool false)] rfl ⟨rfl, trivial⟩ ⟨rfl, (hs.pick [] rfl).dnil⟩
  · have hk := hk.lit 9 c6 rfl
    refine cnd_false hk rfl rfl ?_
    refine wp_skip ?_
    refine hK4 _ _ ?_
    apply wp_seq_k; intro K8 hK8
    apply wp_seq_k; intro K9 hK9
    apply wp_region_lit
    refine sf ⟨b2, 1, none⟩ rfl hk rfl rfl rfl fd62_1 rfl fun a hk => ?_
    refine sl rfl hk rfl rfl rfl ag3 (box_cell hs (k := 1) rfl rfl) fun a hk => ?_
    refine sf ⟨b3, 1, none⟩ rfl hk rfl rfl rfl fd62_1 rfl fun a hk => ?_
    refine sl rfl hk rfl rfl rfl ag3 (box_cell hs (k := 2) rfl rfl) fun a hk => ?_
    refine sv (.bool (x0.Value != x1.Value)) hk rfl rfl rfl fun a hk => ?_
    show wpList _ _ _ [] _ _
    refine wpList_nil ?_
    refine hK9 _ _ ?_
    rcases cond_some H with ⟨c10, H⟩ | ⟨c10, H⟩
    · have hk := hk.lit 14 c10 rfl
      refine cnd_true hk rfl rfl ?_
      apply wp_seq_k; intro K11 hK11
      apply wp_region_lit
      refine sa _ rfl hk rfl rfl rfl fun a hk => ?_
      show wpList _ _ _ [] _ _
      refine wpList_nil ?_
      refine hK11 _ _ ?_
      refine wp_ret ?_
      obtain rfl := Option.some.inj H
      exact fin hk _ [(.bool false)] rfl ⟨rfl, trivial⟩ ⟨rfl, (hs.pick [] rfl).dnil⟩
    · have hk := hk.lit 14 c10 rfl
      refine cnd_false hk rfl rfl ?_
      refine wp_skip ?_
      refine hK8 _ _ ?_
      apply wp_seq_k; intro K12 hK12
      apply wp_region_lit
      refine sa _ rfl hk rfl rfl rfl fun a hk => ?_
      show wpList _ _ _ [] _ _
      refine wpList_nil ?_
      refine hK12 _ _ ?_
      refine wp_ret ?_
      obtain rfl := Option.some.inj H
      exact fin hk _ [(.bool true)] rfl ⟨rfl, trivial⟩ ⟨rfl, (hs.pick [] rfl).dnil⟩

noncomputable def laws_eqEntryS.s0 (l0 : List S_Entry) (l1 : List S_Entry) (u10 : Int) : Option ((Int) ⊕ Ex (Unit) (Bool)) :=
  (bif (decide (u10 < (l0.length : Int))) then (if 0 ≤ u10 ∧ u10 < (l0.length : Int) then (if 0 ≤ u10 ∧ u10 < (l1.length : Int) then ((laws_eqEntry.f (l0.getD u10.toNat z_Entry) (l1.getD u10.toNat z_Entry)).bind fun y33 => (bif (!y33) then (some (.inr (.ret false))) else (some (.inl (w64 (u10 + 1)))))) else none) else none) else (some (.inr (.out ()))))
noncomputable def laws_eqEntryS.f (l0 : List S_Entry) (l1 : List S_Entry) : Option (Bool) :=
  (bif ((l0.length : Int) != (l1.length : Int)) then (some false) else ((loopO (fun s => laws_eqEntryS.s0 l0 l1 s) 0).bind fun o => match o with | .out _ => (some true) | .ret r => (some r)))
set_option maxRecDepth 100000 in
set_option maxHeartbeats 0 in
theorem laws_eqEntryS_t (w0 : World) (A0_ : Option Addr) (p0_ : Nat) (l0 : List S_Entry) (k0_ : Chunk) (v0_ : View L_Entry A0_ p0_ l0 k0_) (w0_ : Has w0 k0_) (A1_ : Option Addr) (p1_ : Nat) (l1 : List S_Entry) (k1_ : Chunk) (v1_ : View L_Entry A1_ p1_ l1 k1_) (w1_ : Has w0 k1_) (r : Bool) (H : laws_eqEntryS.f l0 l1 = some r) :
    Calls Try.prog 16 #[.slice A0_ l0.length p0_, .slice A1_ l1.length p1_] w0 (Ret (fun v w => v = .bool r ∧ Sat [] w0 w [] [])) := by
  have hs : Sat [] w0 w0 [(1, k0_), (2, k1_)] [] := Sat.init w0 [(1, k0_), (2, k1_)] [] (by simp only [List.mem_cons, List.not_mem_nil, or_false]; rintro x (rfl | rfl) <;> assumption) (by simp) List.nodup_nil (by simp [blks])
  unfold laws_eqEntryS.f at H
  refine enter Try.func16 rfl Try.ntmps16 rfl fun a hk => ?_
  apply wp_seq_k; intro K1 hK1
  apply wp_region_lit
  refine sa _ rfl hk rfl rfl rfl fun a hk => ?_
  show wpList _ _ _ [] _ _
  refine wpList_nil ?_
  refine hK1 _ _ ?_
  apply wp_seq_k; intro K2 hK2
  apply wp_seq_k; intro K3 hK3
  apply wp_region_lit
  refine sm _ rfl hk rfl rfl rfl fun a hk => ?_
  refine sle rfl hk rfl rfl rfl un26 fun a hk => ?_
  refine sm _ rfl hk rfl rfl rfl fun a hk => ?_
  refine sle rfl hk rfl rfl rfl un26 fun a hk => ?_
  refine sv (.bool ((l0.length : Int) != (l1.length : Int))) hk rfl rfl rfl fun a hk => ?_
  show wpList _ _ _ [] _ _
  refine wpList_nil ?_
  refine hK3 _ _ ?_
  rcases cond_some H with ⟨c4, H⟩ | ⟨c4, H⟩
  · have hk := hk.lit 10 c4 rfl
    refine cnd_true hk rfl rfl ?_
    apply wp_seq_k; intro K5 hK5
    apply wp_region_lit
    refine sa _ rfl hk rfl rfl rfl fun a hk => ?_
    show wpList _ _ _ [] _ _
    refine wpList_nil ?_
    refine hK5 _ _ ?_
    refine wp_ret ?_
    obtain rfl := Option.some.inj H
    exact fin hk _ [(.bool false)] rfl ⟨rfl, trivial⟩ ⟨rfl, (hs.pick [] rfl).dnil⟩
  · have hk := hk.lit 10 c4 rfl
    refine cnd_false hk rfl rfl ?_
    refine wp_skip ?_
    refine hK2 _ _ ?_
    apply wp_seq_k; intro K6 hK6
    apply wp_seq_k; intro K7 hK7
    apply wp_region_lit
    refine sa _ rfl hk rfl rfl rfl fun a hk => ?_
    show wpList _ _ _ [] _ _
    refine wpList_nil ?_
    refine hK7 _ _ ?_
    obtain ⟨o11, h12, HL13⟩ := bind_some H
    clear H
    obtain ⟨R14, hR14⟩ : ∃ R : Act → World → Prop, R = fun a w => o11 = .out () ∧ Kn [] 27 a ∧ Sat [] w0 w [(1, k0_), (2, k1_)] [] := ⟨_, rfl⟩
    refine wp_cutq R14 ?_ ?_
    · refine wp_block ?_
      obtain ⟨fu16, h12⟩ := loopO_some h12
      obtain ⟨I15, hI15⟩ : ∃ I : Nat → Act → World → Prop, I = fun fu a w => ∃ (u10 : Int), loopN (fun s => laws_eqEntryS.s0 l0 l1 s) fu u10 = some o11 ∧ Kn [(0, (.slice A0_ l0.length p0_)), (1, (.slice A1_ l1.length p1_)), (5, (.int .i64 u10))] 27 a ∧ Sat [] w0 w [(1, k0_), (2, k1_)] [] := ⟨_, rfl⟩
      refine wp_loop_ghost I15 fu16 ?_ ?_
      · rw [hI15]
        exact ⟨0, h12, (hk.c 0 rfl (hk.c 1 rfl (hk.c 5 rfl hk.k))), (hs.pick [] rfl)⟩
      · clear h12 hk hs
        intro fu16 a w hI0
        rw [hI15] at hI0
        obtain ⟨u10, hi, hk, hs⟩ := hI0
        obtain ⟨x17, H, h18⟩ := loop_round hi
        try dsimp only at H
        unfold laws_eqEntryS.s0 at H
        apply wp_seq_k; intro K19 hK19
        apply wp_seq_k; intro K20 hK20
        apply wp_region_lit
        refine sm _ rfl hk rfl rfl rfl fun a hk => ?_
        refine sm _ rfl hk rfl rfl rfl fun a hk => ?_
        refine sle rfl hk rfl rfl rfl un26 fun a hk => ?_
        refine sv (.bool (decide (u10 < (l0.length : Int)))) hk rfl rfl rfl fun a hk => ?_
        show wpList _ _ _ [] _ _
        refine wpList_nil ?_
        refine hK20 _ _ ?_
        rcases cond_some H with ⟨c21, H⟩ | ⟨c21, H⟩
        · have hk := hk.lit 14 c21 rfl
          refine cnd_true hk rfl rfl ?_
          refine wp_skip ?_
          refine hK19 _ _ ?_
          apply wp_seq_k; intro K22 hK22
          refine wp_block ?_
          apply wp_seq_k; intro K23 hK23
          refine wp_region_tree (.q 0 (.q 1 (.q 2 (.q 3 (.q 4 (.alt 5 (.alt 6 (.alt 7 (.alt 8 (.alt 9 .done .stop) .stop) .stop) .stop) .stop)))))) mo (by kernel_rfl) (hs.pick [] rfl) fun _ => ?_
          have hs := hs.drew
          refine tqst (.slice A0_ l0.length p0_) hk rfl rfl rfl rfl (fun w hs => sm _ rfl hk rfl rfl rfl fun a hk => qe hk) fun a hk => ?_
          refine tqst (.int .i64 u10) hk rfl rfl rfl rfl (fun w hs => sm _ rfl hk rfl rfl rfl fun a hk => qe hk) fun a hk => ?_
          rcases ite_some H with ⟨c25, H⟩ | ⟨_, H⟩
          rotate_left
          · cases H
          obtain ⟨b26, q27, hAc25⟩ := (v0_).some_ u10 c25.1 c25.2
          refine tqst (.pointer (some (padd A0_ (u10.toNat * 2)))) hk rfl rfl rfl rfl (fun w hs => si rfl hk rfl rfl rfl rfl un26 sz62 c25.1 c25.2 hAc25 fun a hk => qe hk) fun a hk => ?_
          obtain ⟨_, rfl, e28⟩ := (v0_).at_ z_Entry u10 c25.1 c25.2
          refine tqst (.agg #[.int .i64 ((l0.getD u10.toNat z_Entry).Key), .int .i64 ((l0.getD u10.toNat z_Entry).Value)]) hk rfl rfl rfl rfl (fun w hs => sln [.int .i64 ((l0.getD u10.toNat z_Entry).Key), .int .i64 ((l0.getD u10.toNat z_Entry).Value)] rfl hk rfl rfl rfl ag62 sz62 (cells_at e28 (hs.hasD (k := 1) rfl)) fun a hk => qe hk) fun a hk => ?_
          refine tqst (.slice A1_ l1.length p1_) hk rfl rfl rfl rfl (fun w hs => sm _ rfl hk rfl rfl rfl fun a hk => qe hk) fun a hk => ?_
          refine tsst hk rfl rfl (fun K_r24_5 hK_r24_5 w hF => ?_) wt_stop
          have hs := hs.f hF
          refine sm _ rfl hk rfl rfl rfl fun a hk => ?_
          refine se (hs.pick [] rfl) hk (hK_r24_5 _ _ ?_)
          refine tsst hk rfl rfl (fun K_r24_6 hK_r24_6 w hF => ?_) wt_stop
          have hs := hs.f hF
          rcases ite_some H with ⟨c29, H⟩ | ⟨_, H⟩
          rotate_left
          · cases H
          obtain ⟨b30, q31, hAc29⟩ := (v1_).some_ u10 c29.1 c29.2
          refine si rfl hk rfl rfl rfl rfl un26 sz62 c29.1 c29.2 hAc29 fun a hk => ?_
          refine se (hs.pick [] rfl) hk (hK_r24_6 _ _ ?_)
          refine tsst hk rfl rfl (fun K_r24_7 hK_r24_7 w hF => ?_) wt_stop
          have hs := hs.f hF
          obtain ⟨_, rfl, e32⟩ := (v1_).at_ z_Entry u10 c29.1 c29.2
          refine sln [.int .i64 ((l1.getD u10.toNat z_Entry).Key), .int .i64 ((l1.getD u10.toNat z_Entry).Value)] rfl hk rfl rfl rfl ag62 sz62 (cells_at e32 (hs.hasD (k := 2) rfl)) fun a hk => ?_
          refine se (hs.pick [] rfl) hk (hK_r24_7 _ _ ?_)
          refine tsst hk rfl rfl (fun K_r24_8 hK_r24_8 w hF => ?_) wt_stop
          have hs := hs.f hF
          obtain ⟨y33, h34, H⟩ := bind_some H
          refine sc rfl en70 hk rfl rfl rfl (laws_eqEntry_t _ (l0.getD u10.toNat z_Entry) (l1.getD u10.toNat z_Entry) _ h34) ?_
          rintro _ w ⟨rfl, hG⟩ a hk
          have hs := hs.call0 hG
          refine se (hs.pick [] rfl) hk (hK_r24_8 _ _ ?_)
          refine tsst hk rfl rfl (fun K_r24_9 hK_r24_9 w hF => ?_) wt_stop
          have hs := hs.f hF
          refine sv (.bool (!y33)) hk rfl rfl rfl fun a hk => ?_
          refine se (hs.pick [] rfl) hk (hK_r24_9 _ _ ?_)
          refine wtl_nil fun w hF _ => ?_
          have hs := hs.f hF
          refine hK23 _ _ ?_
          rcases cond_some H with ⟨c35, H⟩ | ⟨c35, H⟩
          · have hk := hk.lit 26 c35 rfl
            refine cnd_true hk rfl rfl ?_
            apply wp_seq_k; intro K36 hK36
            apply wp_region_lit
            refine sa _ rfl hk rfl rfl rfl fun a hk => ?_
            show wpList _ _ _ [] _ _
            refine wpList_nil ?_
            refine hK36 _ _ ?_
            refine wp_ret ?_
            obtain rfl := Option.some.inj H
            have ho11 := h18
            try dsimp only at ho11
            subst ho11
            have H := HL13
            try dsimp only at H
            obtain rfl := Option.some.inj H
            exact fin hk _ [(.bool false)] rfl ⟨rfl, trivial⟩ ⟨rfl, (hs.pick [] rfl).dnil⟩
          · have hk := hk.lit 26 c35 rfl
            refine cnd_false hk rfl rfl ?_
            refine wp_skip ?_
            refine hK22 _ _ ?_
            apply wp_region_lit
            refine sm _ rfl hk rfl rfl rfl fun a hk => ?_
            refine sv (.int .i64 (w64 (u10 + 1))) hk rfl rfl rfl fun a hk => ?_
            refine sa _ rfl hk rfl rfl rfl fun a hk => ?_
            show wpList _ _ _ [] _ _
            refine wpList_nil ?_
            obtain rfl := Option.some.inj H
            obtain ⟨m37, hmm37, h18⟩ := h18
            show ∃ n', n' < _ ∧ I15 n' _ _
            refine ⟨m37, hmm37, ?_⟩
            rw [hI15]
            exact ⟨(w64 (u10 + 1)), h18, (hk.c 0 rfl (hk.c 1 rfl (hk.c 5 rfl hk.k))), (hs.pick [] rfl)⟩
        · have hk := hk.lit 14 c21 rfl
          refine cnd_false hk rfl rfl ?_
          refine wp_exit ?_
          obtain rfl := Option.some.inj H
          show R14 _ _
          rw [hR14]
          exact ⟨h18.symm, hk.k, (hs.pick [] rfl)⟩
    · intro a w hR0
      rw [hR14] at hR0
      obtain ⟨rfl, hk, hs⟩ := hR0
      have H := HL13
      try dsimp only at H
      refine hK6 _ _ ?_
      apply wp_seq_k; intro K38 hK38
      apply wp_region_lit
      refine sa _ rfl hk rfl rfl rfl fun a hk => ?_
      show wpList _ _ _ [] _ _
      refine wpList_nil ?_
      refine hK38 _ _ ?_
      refine wp_ret ?_
      obtain rfl := Option.some.inj H
      exact fin hk _ [(.bool true)] rfl ⟨rfl, trivial⟩ ⟨rfl, (hs.pick [] rfl).dnil⟩

noncomputable def laws_markEntryS.s0 (l0 : List S_Entry) (u6 : List S_Entry) (u10 : Int) (u11 : Int) : Option (((List S_Entry) × Int × Int) ⊕ Ex ((List S_Entry) × Int) (Int × (List S_Entry))) :=
  (bif (decide (u11 < (l0.length : Int))) then (if 0 ≤ u11 ∧ u11 < (l0.length : Int) then (if 0 ≤ u11 ∧ u11 < (l0.length : Int) then (some (.inl (((u6.set u11.toNat (⟨u10, (u6.getD u11.toNat z_Entry).Value⟩ : S_Entry)).set u11.toNat (⟨((u6.set u11.toNat (⟨u10, (u6.getD u11.toNat z_Entry).Value⟩ : S_Entry)).getD u11.toNat z_Entry).Key, (w64 (u10 + 1))⟩ : S_Entry)), (w64 ((w64 (u10 + 1)) + 1)), (w64 (u11 + 1))))) else none) else none) else (some (.inr (.out (u6, u10)))))
noncomputable def laws_markEntryS.f (l0 : List S_Entry) (x1 : Int) : Option (Int × (List S_Entry)) :=
  ((loopO (fun s => laws_markEntryS.s0 l0 s.1 s.2.1 s.2.2) (l0, x1, 0)).bind fun o => match o with | .out (u12, u16) => (some (u16, u12)) | .ret r => (some r))
set_option maxRecDepth 100000 in
set_option maxHeartbeats 0 in
theorem laws_markEntryS_t (w0 : World) (A0_ : Option Addr) (p0_ : Nat) (l0 : List S_Entry) (k0_ : Chunk) (v0_ : Own L_Entry 62 A0_ p0_ l0 k0_) (x1 : Int) (hs0 : Sat (blks [(1, k0_)]) w0 w0 [] [(1, k0_)]) (r : Int × (List S_Entry)) (H : laws_markEntryS.f l0 x1 = some r) :
    Calls Try.prog 18 #[.slice A0_ l0.length p0_, .int .i64 x1] w0 (Ret (fun v w => ∃ (k0 : Chunk), v = .int .i64 r.1 ∧ (Own L_Entry 62 A0_ p0_ r.2 k0 ∧ r.2.length = l0.length) ∧ Sat (blks [(1, k0_)]) w0 w [] [(0, k0)])) := by
  have hs := hs0
  unfold laws_markEntryS.f at H
  refine enter Try.func18 rfl Try.ntmps18 rfl fun a hk => ?_
  apply wp_seq_k; intro K1 hK1
  apply wp_region_lit
  refine sa _ rfl hk rfl rfl rfl fun a hk => ?_
  show wpList _ _ _ [] _ _
  refine wpList_nil ?_
  refine hK1 _ _ ?_
  apply wp_seq_k; intro K2 hK2
  apply wp_seq_k; intro K3 hK3
  apply wp_region_lit
  refine sa _ rfl hk rfl rfl rfl fun a hk => ?_
  show wpList _ _ _ [] _ _
  refine wpList_nil ?_
  refine hK3 _ _ ?_
  obtain ⟨o17, h18, HL19⟩ := bind_some H
  clear H
  obtain ⟨R20, hR20⟩ : ∃ R : Act → World → Prop, R = fun a w => ∃ (u12 : List S_Entry) (u16 : Int) (k13 : Chunk), o17 = .out (u12, u16) ∧ Kn [(0, (.slice A0_ l0.length p0_)), (1, (.int .i64 u16))] 27 a ∧ Sat (blks [(1, k0_)]) w0 w [] [(1, k13)] ∧ Own L_Entry 62 A0_ p0_ u12 k13 ∧ u12.length = l0.length := ⟨_, rfl⟩
  refine wp_cutq R20 ?_ ?_
  · refine wp_block ?_
    obtain ⟨fu22, h18⟩ := loopO_some h18
    obtain ⟨I21, hI21⟩ : ∃ I : Nat → Act → World → Prop, I = fun fu a w => ∃ (u6 : List S_Entry) (u10 : Int) (u11 : Int) (k7 : Chunk), loopN (fun s => laws_markEntryS.s0 l0 s.1 s.2.1 s.2.2) fu (u6, u10, u11) = some o17 ∧ Kn [(0, (.slice A0_ l0.length p0_)), (1, (.int .i64 u10)), (5, (.int .i64 u11))] 27 a ∧ Sat (blks [(1, k0_)]) w0 w [] [(1, k7)] ∧ Own L_Entry 62 A0_ p0_ u6 k7 ∧ u6.length = l0.length := ⟨_, rfl⟩
    refine wp_loop_ghost I21 fu22 ?_ ?_
    · rw [hI21]
      exact ⟨l0, x1, 0, _, h18, (hk.c 0 rfl (hk.c 1 rfl (hk.c 5 rfl hk.k))), (hs.pick [(1, 1)] rfl), v0_, rfl⟩
    · clear h18 hk hs
      intro fu22 a w hI0
      rw [hI21] at hI0
      obtain ⟨u6, u10, u11, k7, hi, hk, hs, o8, lh9⟩ := hI0
      obtain ⟨x23, H, h24⟩ := loop_round hi
      try dsimp only at H
      unfold laws_markEntryS.s0 at H
      apply wp_seq_k; intro K25 hK25
      apply wp_seq_k; intro K26 hK26
      apply wp_region_lit
      refine sm _ rfl hk rfl rfl rfl fun a hk => ?_
      refine sm _ rfl hk rfl rfl rfl fun a hk => ?_
      refine sle rfl hk rfl rfl rfl un26 fun a hk => ?_
      refine sv (.bool (decide (u11 < (l0.length : Int)))) hk rfl rfl rfl fun a hk => ?_
      show wpList _ _ _ [] _ _
      refine wpList_nil ?_
      refine hK26 _ _ ?_
      rcases cond_some H with ⟨c27, H⟩ | ⟨c27, H⟩
      · have hk := hk.lit 9 c27 rfl
        refine cnd_true hk rfl rfl ?_
        refine wp_skip ?_
        refine hK25 _ _ ?_
        apply wp_seq_k; intro K28 hK28
        refine wp_block ?_
        apply wp_seq_k; intro K29 hK29
        apply wp_region_lit
        refine sm _ rfl hk rfl rfl rfl fun a hk => ?_
        refine sm _ rfl hk rfl rfl rfl fun a hk => ?_
        refine sm _ rfl hk rfl rfl rfl fun a hk => ?_
        rcases ite_some H with ⟨c30, H⟩ | ⟨_, H⟩
        rotate_left
        · cases H
        obtain ⟨b31, q32, hAc30⟩ := (o8.view).some_ u11 c30.1 (by rw [lh9]; exact c30.2)
        refine si rfl hk rfl rfl rfl rfl un26 sz62 c30.1 c30.2 hAc30 fun a hk => ?_
        refine sf (padd A0_ (u11.toNat * 2 + 0)) rfl hk rfl rfl rfl fd62_0 (padd_add _ _ _) fun a hk => ?_
        refine so (j := 0) 1 z_Entry (⟨u10, (u6.getD u11.toNat z_Entry).Value⟩ : S_Entry) hs rfl o8 c30.1 (by rw [lh9]; exact c30.2) rfl hk rfl rfl rfl rfl rfl sz3 (by simp [Value.cells, Value.oneCell']) (Nat.le_of_ble_eq_true rfl) (fun _ _ h => ⟨by rw [h.1]; rfl, h.2⟩) fun k33 w a hk o34 hs => ?_
        have lh35 : (u6.set u11.toNat (⟨u10, (u6.getD u11.toNat z_Entry).Value⟩ : S_Entry)).length = l0.length := by rw [List.length_set]; exact lh9
        show wpList _ _ _ [] _ _
        refine wpList_nil ?_
        refine hK29 _ _ ?_
        apply wp_seq_k; intro K36 hK36
        apply wp_region_lit
        refine sm _ rfl hk rfl rfl rfl fun a hk => ?_
        refine sv (.int .i64 (w64 (u10 + 1))) hk rfl rfl rfl fun a hk => ?_
        refine sa _ rfl hk rfl rfl rfl fun a hk => ?_
        show wpList _ _ _ [] _ _
        refine wpList_nil ?_
        refine hK36 _ _ ?_
        apply wp_seq_k; intro K37 hK37
        apply wp_region_lit
        refine sm _ rfl hk rfl rfl rfl fun a hk => ?_
        refine sm _ rfl hk rfl rfl rfl fun a hk => ?_
        refine sm _ rfl hk rfl rfl rfl fun a hk => ?_
        rcases ite_some H with ⟨c38, H⟩ | ⟨_, H⟩
        rotate_left
        · cases H
        obtain ⟨b39, q40, hAc38⟩ := (o34.view).some_ u11 c38.1 (by rw [lh35]; exact c38.2)
        refine si rfl hk rfl rfl rfl rfl un26 sz62 c38.1 c38.2 hAc38 fun a hk => ?_
        refine sf (padd A0_ (u11.toNat * 2 + 1)) rfl hk rfl rfl rfl fd62_1 (padd_add _ _ _) fun a hk => ?_
        refine so (j := 1) 1 z_Entry (⟨((u6.set u11.toNat (⟨u10, (u6.getD u11.toNat z_Entry).Value⟩ : S_Entry)).getD u11.toNat z_Entry).Key, (w64 (u10 + 1))⟩ : S_Entry) hs rfl o34 c38.1 (by rw [lh35]; exact c38.2) rfl hk rfl rfl rfl rfl rfl sz3 (by simp [Value.cells, Value.oneCell']) (Nat.le_of_ble_eq_true rfl) (fun _ _ h => ⟨by rw [h.1]; rfl, h.2⟩) fun k41 w a hk o42 hs => ?_
        have lh43 : ((u6.set u11.toNat (⟨u10, (u6.getD u11.toNat z_Entry).Value⟩ : S_Entry)).set u11.toNat (⟨((u6.set u11.toNat (⟨u10, (u6.getD u11.toNat z_Entry).Value⟩ : S_Entry)).getD u11.toNat z_Entry).Key, (w64 (u10 + 1))⟩ : S_Entry)).length = l0.length := by rw [List.length_set]; exact lh35
        show wpList _ _ _ [] _ _
        refine wpList_nil ?_
        refine hK37 _ _ ?_
        apply wp_region_lit
        refine sm _ rfl hk rfl rfl rfl fun a hk => ?_
        refine sv (.int .i64 (w64 ((w64 (u10 + 1)) + 1))) hk rfl rfl rfl fun a hk => ?_
        refine sa _ rfl hk rfl rfl rfl fun a hk => ?_
        show wpList _ _ _ [] _ _
        refine wpList_nil ?_
        refine hK28 _ _ ?_
        apply wp_region_lit
        refine sm _ rfl hk rfl rfl rfl fun a hk => ?_
        refine sv (.int .i64 (w64 (u11 + 1))) hk rfl rfl rfl fun a hk => ?_
        refine sa _ rfl hk rfl rfl rfl fun a hk => ?_
        show wpList _ _ _ [] _ _
        refine wpList_nil ?_
        obtain rfl := Option.some.inj H
        obtain ⟨m44, hmm44, h24⟩ := h24
        show ∃ n', n' < _ ∧ I21 n' _ _
        refine ⟨m44, hmm44, ?_⟩
        rw [hI21]
        exact ⟨((u6.set u11.toNat (⟨u10, (u6.getD u11.toNat z_Entry).Value⟩ : S_Entry)).set u11.toNat (⟨((u6.set u11.toNat (⟨u10, (u6.getD u11.toNat z_Entry).Value⟩ : S_Entry)).getD u11.toNat z_Entry).Key, (w64 (u10 + 1))⟩ : S_Entry)), (w64 ((w64 (u10 + 1)) + 1)), (w64 (u11 + 1)), _, h24, (hk.c 0 rfl (hk.c 1 rfl (hk.c 5 rfl hk.k))), (hs.pick [(1, 1)] rfl), o42, lh43⟩
      · have hk := hk.lit 9 c27 rfl
        refine cnd_false hk rfl rfl ?_
        refine wp_exit ?_
        obtain rfl := Option.some.inj H
        show R20 _ _
        rw [hR20]
        exact ⟨u6, u10, _, h24.symm, (hk.c 0 rfl (hk.c 1 rfl hk.k)), (hs.pick [(1, 1)] rfl), o8, lh9⟩
  · intro a w hR0
    rw [hR20] at hR0
    obtain ⟨u12, u16, k13, rfl, hk, hs, o14, lh15⟩ := hR0
    have H := HL19
    try dsimp only at H
    refine hK2 _ _ ?_
    apply wp_seq_k; intro K45 hK45
    apply wp_region_lit
    refine sm _ rfl hk rfl rfl rfl fun a hk => ?_
    refine sa _ rfl hk rfl rfl rfl fun a hk => ?_
    show wpList _ _ _ [] _ _
    refine wpList_nil ?_
    refine hK45 _ _ ?_
    refine wp_ret ?_
    obtain rfl := Option.some.inj H
    exact fin hk _ [(.int .i64 u16)] rfl ⟨rfl, trivial⟩ ⟨_, rfl, ⟨o14, lh15⟩, (hs.pick [(0, 1)] rfl).dnil⟩

noncomputable def laws_heldEntryS.s0 (l0 : List S_Entry) (u6 : Int) (u7 : Int) : Option ((Int × Int) ⊕ Ex (Int) (Int)) :=
  (bif (decide (u7 < (l0.length : Int))) then (if 0 ≤ u7 ∧ u7 < (l0.length : Int) then (bif (((l0.getD u7.toNat z_Entry).Key) != u6) then (some (.inr (.ret (-1)))) else (if 0 ≤ u7 ∧ u7 < (l0.length : Int) then (bif (((l0.getD u7.toNat z_Entry).Value) != (w64 (u6 + 1))) then (some (.inr (.ret (-1)))) else (some (.inl ((w64 ((w64 (u6 + 1)) + 1)), (w64 (u7 + 1)))))) else none)) else none) else (some (.inr (.out u6))))
noncomputable def laws_heldEntryS.f (l0 : List S_Entry) (x1 : Int) : Option (Int) :=
  ((loopO (fun s => laws_heldEntryS.s0 l0 s.1 s.2) (x1, 0)).bind fun o => match o with | .out u8 => (some u8) | .ret r => (some r))
set_option maxRecDepth 100000 in
set_option maxHeartbeats 0 in
theorem laws_heldEntryS_t (w0 : World) (A0_ : Option Addr) (p0_ : Nat) (l0 : List S_Entry) (k0_ : Chunk) (v0_ : View L_Entry A0_ p0_ l0 k0_) (w0_ : Has w0 k0_) (x1 : Int) (r : Int) (H : laws_heldEntryS.f l0 x1 = some r) :
    Calls Try.prog 20 #[.slice A0_ l0.length p0_, .int .i64 x1] w0 (Ret (fun v w => v = .int .i64 r ∧ Sat [] w0 w [] [])) := by
  have hs : Sat [] w0 w0 [(1, k0_)] [] := Sat.init w0 [(1, k0_)] [] (by simp only [List.mem_cons, List.not_mem_nil, or_false]; rintro x (rfl) <;> assumption) (by simp) List.nodup_nil (by simp [blks])
  unfold laws_heldEntryS.f at H
  refine enter Try.func20 rfl Try.ntmps20 rfl fun a hk => ?_
  apply wp_seq_k; intro K1 hK1
  apply wp_region_lit
  refine sa _ rfl hk rfl rfl rfl fun a hk => ?_
  show wpList _ _ _ [] _ _
  refine wpList_nil ?_
  refine hK1 _ _ ?_
  apply wp_seq_k; intro K2 hK2
  apply wp_seq_k; intro K3 hK3
  apply wp_region_lit
  refine sa _ rfl hk rfl rfl rfl fun a hk => ?_
  show wpList _ _ _ [] _ _
  refine wpList_nil ?_
  refine hK3 _ _ ?_
  obtain ⟨o9, h10, HL11⟩ := bind_some H
  clear H
  obtain ⟨R12, hR12⟩ : ∃ R : Act → World → Prop, R = fun a w => ∃ (u8 : Int), o9 = .out u8 ∧ Kn [(1, (.int .i64 u8))] 31 a ∧ Sat [] w0 w [(1, k0_)] [] := ⟨_, rfl⟩
  refine wp_cutq R12 ?_ ?_
  · refine wp_block ?_
    obtain ⟨fu14, h10⟩ := loopO_some h10
    obtain ⟨I13, hI13⟩ : ∃ I : Nat → Act → World → Prop, I = fun fu a w => ∃ (u6 : Int) (u7 : Int), loopN (fun s => laws_heldEntryS.s0 l0 s.1 s.2) fu (u6, u7) = some o9 ∧ Kn [(0, (.slice A0_ l0.length p0_)), (1, (.int .i64 u6)), (5, (.int .i64 u7))] 31 a ∧ Sat [] w0 w [(1, k0_)] [] := ⟨_, rfl⟩
    refine wp_loop_ghost I13 fu14 ?_ ?_
    · rw [hI13]
      exact ⟨x1, 0, h10, (hk.c 0 rfl (hk.c 1 rfl (hk.c 5 rfl hk.k))), (hs.pick [] rfl)⟩
    · clear h10 hk hs
      intro fu14 a w hI0
      rw [hI13] at hI0
      obtain ⟨u6, u7, hi, hk, hs⟩ := hI0
      obtain ⟨x15, H, h16⟩ := loop_round hi
      try dsimp only at H
      unfold laws_heldEntryS.s0 at H
      apply wp_seq_k; intro K17 hK17
      apply wp_seq_k; intro K18 hK18
      apply wp_region_lit
      refine sm _ rfl hk rfl rfl rfl fun a hk => ?_
      refine sm _ rfl hk rfl rfl rfl fun a hk => ?_
      refine sle rfl hk rfl rfl rfl un26 fun a hk => ?_
      refine sv (.bool (decide (u7 < (l0.length : Int)))) hk rfl rfl rfl fun a hk => ?_
      show wpList _ _ _ [] _ _
      refine wpList_nil ?_
      refine hK18 _ _ ?_
      rcases cond_some H with ⟨c19, H⟩ | ⟨c19, H⟩
      · have hk := hk.lit 9 c19 rfl
        refine cnd_true hk rfl rfl ?_
        refine wp_skip ?_
        refine hK17 _ _ ?_
        apply wp_seq_k; intro K20 hK20
        refine wp_block ?_
        apply wp_seq_k; intro K21 hK21
        apply wp_seq_k; intro K22 hK22
        apply wp_region_lit
        refine sm _ rfl hk rfl rfl rfl fun a hk => ?_
        refine sm _ rfl hk rfl rfl rfl fun a hk => ?_
        rcases ite_some H with ⟨c23, H⟩ | ⟨_, H⟩
        rotate_left
        · cases H
        obtain ⟨b24, q25, hAc23⟩ := (v0_).some_ u7 c23.1 c23.2
        refine si rfl hk rfl rfl rfl rfl un26 sz62 c23.1 c23.2 hAc23 fun a hk => ?_
        refine sf (padd A0_ (u7.toNat * 2 + 0)) rfl hk rfl rfl rfl fd62_0 (padd_add _ _ _) fun a hk => ?_
        obtain ⟨_, rfl, e26⟩ := (v0_).at_ z_Entry u7 c23.1 c23.2
        refine sl (v := (.int .i64 ((l0.getD u7.toNat z_Entry).Key))) rfl hk rfl rfl rfl ag3 ((e26 0 _ rfl).cell (hs.hasD (k := 1) rfl)) fun a hk => ?_
        refine sm _ rfl hk rfl rfl rfl fun a hk => ?_
        refine sv (.bool (((l0.getD u7.toNat z_Entry).Key) != u6)) hk rfl rfl rfl fun a hk => ?_
        show wpList _ _ _ [] _ _
        refine wpList_nil ?_
        refine hK22 _ _ ?_
        rcases cond_some H with ⟨c27, H⟩ | ⟨c27, H⟩
        · have hk := hk.lit 18 c27 rfl
          refine cnd_true hk rfl rfl ?_
          apply wp_seq_k; intro K28 hK28
          apply wp_region_lit
          refine sa _ rfl hk rfl rfl rfl fun a hk => ?_
          show wpList _ _ _ [] _ _
          refine wpList_nil ?_
          refine hK28 _ _ ?_
          refine wp_ret ?_
          obtain rfl := Option.some.inj H
          have ho9 := h16
          try dsimp only at ho9
          subst ho9
          have H := HL11
          try dsimp only at H
          obtain rfl := Option.some.inj H
          exact fin hk _ [(.int .i64 (-1))] rfl ⟨rfl, trivial⟩ ⟨rfl, (hs.pick [] rfl).dnil⟩
        · have hk := hk.lit 18 c27 rfl
          refine cnd_false hk rfl rfl ?_
          refine wp_skip ?_
          refine hK21 _ _ ?_
          apply wp_seq_k; intro K29 hK29
          apply wp_region_lit
          refine sm _ rfl hk rfl rfl rfl fun a hk => ?_
          refine sv (.int .i64 (w64 (u6 + 1))) hk rfl rfl rfl fun a hk => ?_
          refine sa _ rfl hk rfl rfl rfl fun a hk => ?_
          show wpList _ _ _ [] _ _
          refine wpList_nil ?_
          refine hK29 _ _ ?_
          apply wp_seq_k; intro K30 hK30
          apply wp_seq_k; intro K31 hK31
          apply wp_region_lit
          refine sm _ rfl hk rfl rfl rfl fun a hk => ?_
          refine sm _ rfl hk rfl rfl rfl fun a hk => ?_
          rcases ite_some H with ⟨c32, H⟩ | ⟨_, H⟩
          rotate_left
          · cases H
          obtain ⟨b33, q34, hAc32⟩ := (v0_).some_ u7 c32.1 c32.2
          refine si rfl hk rfl rfl rfl rfl un26 sz62 c32.1 c32.2 hAc32 fun a hk => ?_
          refine sf (padd A0_ (u7.toNat * 2 + 1)) rfl hk rfl rfl rfl fd62_1 (padd_add _ _ _) fun a hk => ?_
          obtain ⟨_, rfl, e35⟩ := (v0_).at_ z_Entry u7 c32.1 c32.2
          refine sl (v := (.int .i64 ((l0.getD u7.toNat z_Entry).Value))) rfl hk rfl rfl rfl ag3 ((e35 1 _ rfl).cell (hs.hasD (k := 1) rfl)) fun a hk => ?_
          refine sm _ rfl hk rfl rfl rfl fun a hk => ?_
          refine sv (.bool (((l0.getD u7.toNat z_Entry).Value) != (w64 (u6 + 1)))) hk rfl rfl rfl fun a hk => ?_
          show wpList _ _ _ [] _ _
          refine wpList_nil ?_
          refine hK31 _ _ ?_
          rcases cond_some H with ⟨c36, H⟩ | ⟨c36, H⟩
          · have hk := hk.lit 27 c36 rfl
            refine cnd_true hk rfl rfl ?_
            apply wp_seq_k; intro K37 hK37
            apply wp_region_lit
            refine sa _ rfl hk rfl rfl rfl fun a hk => ?_
            show wpList _ _ _ [] _ _
            refine wpList_nil ?_
            refine hK37 _ _ ?_
            refine wp_ret ?_
            obtain rfl := Option.some.inj H
            have ho9 := h16
            try dsimp only at ho9
            subst ho9
            have H := HL11
            try dsimp only at H
            obtain rfl := Option.some.inj H
            exact fin hk _ [(.int .i64 (-1))] rfl ⟨rfl, trivial⟩ ⟨rfl, (hs.pick [] rfl).dnil⟩
          · have hk := hk.lit 27 c36 rfl
            refine cnd_false hk rfl rfl ?_
            refine wp_skip ?_
            refine hK30 _ _ ?_
            apply wp_region_lit
            refine sm _ rfl hk rfl rfl rfl fun a hk => ?_
            refine sv (.int .i64 (w64 ((w64 (u6 + 1)) + 1))) hk rfl rfl rfl fun a hk => ?_
            refine sa _ rfl hk rfl rfl rfl fun a hk => ?_
            show wpList _ _ _ [] _ _
            refine wpList_nil ?_
            refine hK20 _ _ ?_
            apply wp_region_lit
            refine sm _ rfl hk rfl rfl rfl fun a hk => ?_
            refine sv (.int .i64 (w64 (u7 + 1))) hk rfl rfl rfl fun a hk => ?_
            refine sa _ rfl hk rfl rfl rfl fun a hk => ?_
            show wpList _ _ _ [] _ _
            refine wpList_nil ?_
            obtain rfl := Option.some.inj H
            obtain ⟨m38, hmm38, h16⟩ := h16
            show ∃ n', n' < _ ∧ I13 n' _ _
            refine ⟨m38, hmm38, ?_⟩
            rw [hI13]
            exact ⟨(w64 ((w64 (u6 + 1)) + 1)), (w64 (u7 + 1)), h16, (hk.c 0 rfl (hk.c 1 rfl (hk.c 5 rfl hk.k))), (hs.pick [] rfl)⟩
      · have hk := hk.lit 9 c19 rfl
        refine cnd_false hk rfl rfl ?_
        refine wp_exit ?_
        obtain rfl := Option.some.inj H
        show R12 _ _
        rw [hR12]
        exact ⟨u6, h16.symm, (hk.c 1 rfl hk.k), (hs.pick [] rfl)⟩
  · intro a w hR0
    rw [hR12] at hR0
    obtain ⟨u8, rfl, hk, hs⟩ := hR0
    have H := HL11
    try dsimp only at H
    refine hK2 _ _ ?_
    apply wp_seq_k; intro K39 hK39
    apply wp_region_lit
    refine sm _ rfl hk rfl rfl rfl fun a hk => ?_
    refine sa _ rfl hk rfl rfl rfl fun a hk => ?_
    show wpList _ _ _ [] _ _
    refine wpList_nil ?_
    refine hK39 _ _ ?_
    refine wp_ret ?_
    obtain rfl := Option.some.inj H
    exact fin hk _ [(.int .i64 u8)] rfl ⟨rfl, trivial⟩ ⟨rfl, (hs.pick [] rfl).dnil⟩

noncomputable def laws_szOpS.f (l0 : List S_Op) (x1 : Int) : Option (Int) :=
  (bif (decide ((w64 (x1 - (l0.length : Int))) < 0)) then (some (-1)) else (some (w64 (x1 - (l0.length : Int)))))
set_option maxRecDepth 100000 in
set_option maxHeartbeats 0 in
theorem laws_szOpS_t (w0 : World) (A0_ : Option Addr) (p0_ : Nat) (l0 : List S_Op) (k0_ : Chunk) (v0_ : View L_Op A0_ p0_ l0 k0_) (w0_ : Has w0 k0_) (x1 : Int) (r : Int) (H : laws_szOpS.f l0 x1 = some r) :
    Calls Try.prog 71 #[.slice A0_ l0.length p0_, .int .i64 x1] w0 (Ret (fun v w => v = .int .i64 r ∧ Sat [] w0 w [] [])) := by
  have hs : Sat [] w0 w0 [(1, k0_)] [] := Sat.init w0 [(1, k0_)] [] (by simp only [List.mem_cons, List.not_mem_nil, or_false]; rintro x (rfl) <;> assumption) (by simp) List.nodup_nil (by simp [blks])
  unfold laws_szOpS.f at H
  refine enter Try.func71 rfl Try.ntmps71 rfl fun a hk => ?_
  apply wp_seq_k; intro K1 hK1
  apply wp_region_lit
  refine sa _ rfl hk rfl rfl rfl fun a hk => ?_
  show wpList _ _ _ [] _ _
  refine wpList_nil ?_
  refine hK1 _ _ ?_
  apply wp_seq_k; intro K2 hK2
  apply wp_region_lit
  refine sm _ rfl hk rfl rfl rfl fun a hk => ?_
  refine sm _ rfl hk rfl rfl rfl fun a hk => ?_
  refine sle rfl hk rfl rfl rfl un38 fun a hk => ?_
  refine sv (.int .i64 (w64 (x1 - (l0.length : Int)))) hk rfl rfl rfl fun a hk => ?_
  refine sa _ rfl hk rfl rfl rfl fun a hk => ?_
  show wpList _ _ _ [] _ _
  refine wpList_nil ?_
  refine hK2 _ _ ?_
  apply wp_seq_k; intro K3 hK3
  apply wp_seq_k; intro K4 hK4
  apply wp_region_lit
  refine sm _ rfl hk rfl rfl rfl fun a hk => ?_
  refine sv (.bool (decide ((w64 (x1 - (l0.length : Int))) < 0))) hk rfl rfl rfl fun a hk => ?_
  show wpList _ _ _ [] _ _
  refine wpList_nil ?_
  refine hK4 _ _ ?_
  rcases cond_some H with ⟨c5, H⟩ | ⟨c5, H⟩
  · have hk := hk.lit 10 c5 rfl
    refine cnd_true hk rfl rfl ?_
    apply wp_seq_k; intro K6 hK6
    apply wp_region_lit
    refine sa _ rfl hk rfl rfl rfl fun a hk => ?_
    show wpList _ _ _ [] _ _
    refine wpList_nil ?_
    refine hK6 _ _ ?_
    refine wp_ret ?_
    obtain rfl := Option.some.inj H
    exact fin hk _ [(.int .i64 (-1))] rfl ⟨rfl, trivial⟩ ⟨rfl, (hs.pick [] rfl).dnil⟩
  · have hk := hk.lit 10 c5 rfl
    refine cnd_false hk rfl rfl ?_
    refine wp_skip ?_
    refine hK3 _ _ ?_
    apply wp_seq_k; intro K7 hK7
    apply wp_region_lit
    refine sm _ rfl hk rfl rfl rfl fun a hk => ?_
    refine sa _ rfl hk rfl rfl rfl fun a hk => ?_
    show wpList _ _ _ [] _ _
    refine wpList_nil ?_
    refine hK7 _ _ ?_
    refine wp_ret ?_
    obtain rfl := Option.some.inj H
    exact fin hk _ [(.int .i64 (w64 (x1 - (l0.length : Int))))] rfl ⟨rfl, trivial⟩ ⟨rfl, (hs.pick [] rfl).dnil⟩

noncomputable def laws_szTxn.f (x0 : S_Txn) (x1 : Int) : Option (Int) :=
  ((laws_szOpS.f x0.Ops x1).bind fun y4 => (bif (decide (y4 < 0)) then (some (-1)) else (some y4)))
set_option maxRecDepth 100000 in
set_option maxHeartbeats 0 in
theorem laws_szTxn_t (w0 : World) (x0 : S_Txn) (A0_0 : Option Addr) (p0_0 : Nat) (k0_0 : Chunk) (v0_0 : View L_Op A0_0 p0_0 x0.Ops k0_0) (w0_0 : Has w0 k0_0) (x1 : Int) (r : Int) (H : laws_szTxn.f x0 x1 = some r) :
    Calls Try.prog 22 #[.agg #[.slice A0_0 x0.Ops.length p0_0], .int .i64 x1] w0 (Ret (fun v w => v = .int .i64 r ∧ Sat [] w0 w [] [])) := by
  have hs : Sat [] w0 w0 [(1, k0_0)] [] := Sat.init w0 [(1, k0_0)] [] (by simp only [List.mem_cons, List.not_mem_nil, or_false]; rintro x (rfl) <;> assumption) (by simp) List.nodup_nil (by simp [blks])
  unfold laws_szTxn.f at H
  refine enter Try.func22 rfl Try.ntmps22 rfl fun a hk => ?_
  apply wp_seq_k; intro K1 hK1
  apply wp_region_lit
  refine sbx 2 hs rfl hk rfl rfl rfl rfl fun b2 w a hk hs => ?_
  refine sa _ rfl hk rfl rfl rfl fun a hk => ?_
  show wpList _ _ _ [] _ _
  refine wpList_nil ?_
  refine hK1 _ _ ?_
  apply wp_seq_k; intro K3 hK3
  apply wp_region_lit
  refine sf ⟨b2, 0, none⟩ rfl hk rfl rfl rfl fd40_0 rfl fun a hk => ?_
  refine sl rfl hk rfl rfl rfl ag38 (box_cell hs (k := 2) rfl rfl) fun a hk => ?_
  refine sm _ rfl hk rfl rfl rfl fun a hk => ?_
  obtain ⟨y4, h5, H⟩ := bind_some H
  refine sc rfl en71 hk rfl rfl rfl (laws_szOpS_t _ A0_0 p0_0 x0.Ops _ v0_0 (hs.hasD (k := 1) rfl) x1 _ h5) ?_
  rintro _ w ⟨rfl, hG⟩ a hk
  have hs := hs.call0 hG
  refine sa _ rfl hk rfl rfl rfl fun a hk => ?_
  show wpList _ _ _ [] _ _
  refine wpList_nil ?_
  refine hK3 _ _ ?_
  apply wp_seq_k; intro K6 hK6
  apply wp_seq_k; intro K7 hK7
  apply wp_region_lit
  refine sm _ rfl hk rfl rfl rfl fun a hk => ?_
  refine sv (.bool (decide (y4 < 0))) hk rfl rfl rfl fun a hk => ?_
  show wpList _ _ _ [] _ _
  refine wpList_nil ?_
  refine hK7 _ _ ?_
  rcases cond_some H with ⟨c8, H⟩ | ⟨c8, H⟩
  · have hk := hk.lit 10 c8 rfl
    refine cnd_true hk rfl rfl ?_
    apply wp_seq_k; intro K9 hK9
    apply wp_region_lit
    refine sa _ rfl hk rfl rfl rfl fun a hk => ?_
    show wpList _ _ _ [] _ _
    refine wpList_nil ?_
    refine hK9 _ _ ?_
    refine wp_ret ?_
    obtain rfl := Option.some.inj H
    exact fin hk _ [(.int .i64 (-1))] rfl ⟨rfl, trivial⟩ ⟨rfl, (hs.pick [] rfl).dnil⟩
  · have hk := hk.lit 10 c8 rfl
    refine cnd_false hk rfl rfl ?_
    refine wp_skip ?_
    refine hK6 _ _ ?_
    apply wp_seq_k; intro K10 hK10
    apply wp_region_lit
    refine sm _ rfl hk rfl rfl rfl fun a hk => ?_
    refine sa _ rfl hk rfl rfl rfl fun a hk => ?_
    show wpList _ _ _ [] _ _
    refine wpList_nil ?_
    refine hK10 _ _ ?_
    refine wp_ret ?_
    obtain rfl := Option.some.inj H
    exact fin hk _ [(.int .i64 y4)] rfl ⟨rfl, trivial⟩ ⟨rfl, (hs.pick [] rfl).dnil⟩

noncomputable def spec_l01In.f (x0 : Int) (x1 : Int) (x2 : Int) : Option (Bool) :=
  (((bif (decide (x1 ≤ x0)) then (some (decide (x0 ≤ x2))) else (some false)) : Option (Bool)).bind fun u4 => (some u4))
set_option maxRecDepth 100000 in
set_option maxHeartbeats 0 in
theorem spec_l01In_t (w0 : World) (x0 : Int) (x1 : Int) (x2 : Int) (r : Bool) (H : spec_l01In.f x0 x1 x2 = some r) :
    Calls Try.prog 104 #[.int .i64 x0, .int .i64 x1, .int .i64 x2] w0 (Ret (fun v w => v = .bool r ∧ Sat [] w0 w [] [])) := by
  have hs : Sat [] w0 w0 [] [] := Sat.init w0 [] [] (by simp) (by simp) List.nodup_nil (by simp [blks])
  unfold spec_l01In.f at H
  refine enter Try.func104 rfl Try.ntmps104 rfl fun a hk => ?_
  apply wp_seq_k; intro K1 hK1
  apply wp_region_lit
  refine sa _ rfl hk rfl rfl rfl fun a hk => ?_
  show wpList _ _ _ [] _ _
  refine wpList_nil ?_
  refine hK1 _ _ ?_
  apply wp_seq_k; intro K2 hK2
  obtain ⟨o5, h6, HL7⟩ := bind_some H
  clear H
  obtain ⟨R8, hR8⟩ : ∃ R : Act → World → Prop, R = fun a w => ∃ (u4 : Bool), u4 = o5 ∧ Kn [(6, (.bool u4))] 15 a ∧ Sat [] w0 w [] [] := ⟨_, rfl⟩
  refine wp_cutq R8 ?_ ?_
  · have H := h6
    apply wp_region_lit
    refine sm _ rfl hk rfl rfl rfl fun a hk => ?_
    refine sm _ rfl hk rfl rfl rfl fun a hk => ?_
    refine sv (.bool (decide (x1 ≤ x0))) hk rfl rfl rfl fun a hk => ?_
    refine sm _ rfl hk rfl rfl rfl fun a hk => ?_
    rcases cond_some H with ⟨c9, H⟩ | ⟨c9, H⟩
    · have hk := hk.lit 10 c9 rfl
      refine sm _ rfl hk rfl rfl rfl fun a hk => ?_
      refine sm _ rfl hk rfl rfl rfl fun a hk => ?_
      refine sv (.bool (decide (x0 ≤ x2))) hk rfl rfl rfl fun a hk => ?_
      refine sv (.bool (decide (x0 ≤ x2))) hk rfl rfl rfl fun a hk => ?_
      refine sa _ rfl hk rfl rfl rfl fun a hk => ?_
      show wpList _ _ _ [] _ _
      refine wpList_nil ?_
      obtain rfl := Option.some.inj H
      show R8 _ _
      rw [hR8]
      exact ⟨(decide (x0 ≤ x2)), rfl, (hk.c 6 rfl hk.k), (hs.pick [] rfl)⟩
    · have hk := hk.lit 10 c9 rfl
      refine sk hk rfl rfl rfl fun a hk => ?_
      refine sk hk rfl rfl rfl fun a hk => ?_
      refine sk hk rfl rfl rfl fun a hk => ?_
      refine sv (.bool false) hk rfl rfl rfl fun a hk => ?_
      refine sa _ rfl hk rfl rfl rfl fun a hk => ?_
      show wpList _ _ _ [] _ _
      refine wpList_nil ?_
      obtain rfl := Option.some.inj H
      show R8 _ _
      rw [hR8]
      exact ⟨false, rfl, (hk.c 6 rfl hk.k), (hs.pick [] rfl)⟩
  · intro a w hR0
    rw [hR8] at hR0
    obtain ⟨u4, rfl, hk, hs⟩ := hR0
    have H := HL7
    try dsimp only at H
    refine hK2 _ _ ?_
    refine wp_ret ?_
    obtain rfl := Option.some.inj H
    exact fin hk _ [(.bool u4)] rfl ⟨rfl, trivial⟩ ⟨rfl, (hs.pick [] rfl).dnil⟩

noncomputable def spec_MapOK.s0 (l0 : List S_Entry) (u10 : Int) : Option ((Int) ⊕ Ex (Unit) (Bool)) :=
  (bif (decide (u10 < (l0.length : Int))) then (((if 0 ≤ u10 ∧ u10 < (l0.length : Int) then ((spec_l01In.f ((l0.getD u10.toNat z_Entry).Key) 1 9999).bind fun y34 => (bif (!y34) then (some true) else (if 0 ≤ u10 ∧ u10 < (l0.length : Int) then ((spec_l01In.f ((l0.getD u10.toNat z_Entry).Value) 0 999999).bind fun y41 => (bif (!y41) then (some true) else (bif (decide (u10 > 0)) then (if 0 ≤ (w64 (u10 - 1)) ∧ (w64 (u10 - 1)) < (l0.length : Int) then (if 0 ≤ u10 ∧ u10 < (l0.length : Int) then (some (decide (((l0.getD (w64 (u10 - 1)).toNat z_Entry).Key) ≥ ((l0.getD u10.toNat z_Entry).Key)))) else none) else none) else (some false)))) else none))) else none) : Option (Bool)).bind fun u25 => (bif u25 then (some (.inr (.ret false))) else (some (.inl (w64 (u10 + 1)))))) else (some (.inr (.out ()))))
noncomputable def spec_MapOK.f (l0 : List S_Entry) : Option (Bool) :=
  (bif (decide ((l0.length : Int) > 4096)) then (some false) else ((loopO (fun s => spec_MapOK.s0 l0 s) 0).bind fun o => match o with | .out _ => (some (decide ((l0.length : Int) ≤ 11))) | .ret r => (some r)))
set_option maxRecDepth 100000 in
set_option maxHeartbeats 0 in
theorem spec_MapOK_t (w0 : World) (A0_ : Option Addr) (p0_ : Nat) (l0 : List S_Entry) (k0_ : Chunk) (v0_ : View L_Entry A0_ p0_ l0 k0_) (w0_ : Has w0 k0_) (r : Bool) (H : spec_MapOK.f l0 = some r) :
    Calls Try.prog 63 #[.slice A0_ l0.length p0_] w0 (Ret (fun v w => v = .bool r ∧ Sat [] w0 w [] [])) := by
  have hs : Sat [] w0 w0 [(1, k0_)] [] := Sat.init w0 [(1, k0_)] [] (by simp only [List.mem_cons, List.not_mem_nil, or_false]; rintro x (rfl) <;> assumption) (by simp) List.nodup_nil (by simp [blks])
  unfold spec_MapOK.f at H
  refine enter Try.func63 rfl Try.ntmps63 rfl fun a hk => ?_
  apply wp_seq_k; intro K1 hK1
  apply wp_region_lit
  refine sa _ rfl hk rfl rfl rfl fun a hk => ?_
  show wpList _ _ _ [] _ _
  refine wpList_nil ?_
  refine hK1 _ _ ?_
  apply wp_seq_k; intro K2 hK2
  apply wp_seq_k; intro K3 hK3
  apply wp_region_lit
  refine sm _ rfl hk rfl rfl rfl fun a hk => ?_
  refine sle rfl hk rfl rfl rfl un26 fun a hk => ?_
  refine sv (.bool (decide ((l0.length : Int) > 4096))) hk rfl rfl rfl fun a hk => ?_
  show wpList _ _ _ [] _ _
  refine wpList_nil ?_
  refine hK3 _ _ ?_
  rcases cond_some H with ⟨c4, H⟩ | ⟨c4, H⟩
  · have hk := hk.lit 6 c4 rfl
    refine cnd_true hk rfl rfl ?_
    apply wp_seq_k; intro K5 hK5
    apply wp_region_lit
    refine sa _ rfl hk rfl rfl rfl fun a hk => ?_
    show wpList _ _ _ [] _ _
    refine wpList_nil ?_
    refine hK5 _ _ ?_
    refine wp_ret ?_
    obtain rfl := Option.some.inj H
    exact fin hk _ [(.bool false)] rfl ⟨rfl, trivial⟩ ⟨rfl, (hs.pick [] rfl).dnil⟩
  · have hk := hk.lit 6 c4 rfl
    refine cnd_false hk rfl rfl ?_
    refine wp_skip ?_
    refine hK2 _ _ ?_
    apply wp_seq_k; intro K6 hK6
    apply wp_seq_k; intro K7 hK7
    apply wp_region_lit
    refine sa _ rfl hk rfl rfl rfl fun a hk => ?_
    show wpList _ _ _ [] _ _
    refine wpList_nil ?_
    refine hK7 _ _ ?_
    obtain ⟨o11, h12, HL13⟩ := bind_some H
    clear H
    obtain ⟨R14, hR14⟩ : ∃ R : Act → World → Prop, R = fun a w => o11 = .out () ∧ Kn [(0, (.slice A0_ l0.length p0_))] 50 a ∧ Sat [] w0 w [(1, k0_)] [] := ⟨_, rfl⟩
    refine wp_cutq R14 ?_ ?_
    · refine wp_block ?_
      obtain ⟨fu16, h12⟩ := loopO_some h12
      obtain ⟨I15, hI15⟩ : ∃ I : Nat → Act → World → Prop, I = fun fu a w => ∃ (u10 : Int), loopN (fun s => spec_MapOK.s0 l0 s) fu u10 = some o11 ∧ Kn [(0, (.slice A0_ l0.length p0_)), (3, (.int .i64 u10))] 50 a ∧ Sat [] w0 w [(1, k0_)] [] := ⟨_, rfl⟩
      refine wp_loop_ghost I15 fu16 ?_ ?_
      · rw [hI15]
        exact ⟨0, h12, (hk.c 0 rfl (hk.c 3 rfl hk.k)), (hs.pick [] rfl)⟩
      · clear h12 hk hs
        intro fu16 a w hI0
        rw [hI15] at hI0
        obtain ⟨u10, hi, hk, hs⟩ := hI0
        obtain ⟨x17, H, h18⟩ := loop_round hi
        try dsimp only at H
        unfold spec_MapOK.s0 at H
        apply wp_seq_k; intro K19 hK19
        apply wp_seq_k; intro K20 hK20
        apply wp_region_lit
        refine sm _ rfl hk rfl rfl rfl fun a hk => ?_
        refine sm _ rfl hk rfl rfl rfl fun a hk => ?_
        refine sle rfl hk rfl rfl rfl un26 fun a hk => ?_
        refine sv (.bool (decide (u10 < (l0.length : Int)))) hk rfl rfl rfl fun a hk => ?_
        show wpList _ _ _ [] _ _
        refine wpList_nil ?_
        refine hK20 _ _ ?_
        rcases cond_some H with ⟨c21, H⟩ | ⟨c21, H⟩
        · have hk := hk.lit 10 c21 rfl
          refine cnd_true hk rfl rfl ?_
          refine wp_skip ?_
          refine hK19 _ _ ?_
          apply wp_seq_k; intro K22 hK22
          refine wp_block ?_
          apply wp_seq_k; intro K23 hK23
          obtain ⟨o26, h27, HL28⟩ := bind_some H
          clear H
          obtain ⟨R29, hR29⟩ : ∃ R : Act → World → Prop, R = fun a w => ∃ (u25 : Bool), u25 = o26 ∧ Kn [(0, (.slice A0_ l0.length p0_)), (3, (.int .i64 u10)), (46, (.bool u25))] 50 a ∧ Sat [] w0 w [(1, k0_)] [] := ⟨_, rfl⟩
          refine wp_cutq R29 ?_ ?_
          · have H := h27
            refine wp_region_mix [(0, true), (1, true), (2, true), (3, true), (4, true), (5, true), (6, true), (7, true), (8, true), (9, true), (10, true), (11, true), (12, true), (13, true), (14, true), (15, true), (16, true), (17, true), (18, true), (19, true), (20, true), (21, true), (22, true), (23, true), (24, true), (25, true), (26, true), (27, true), (28, true), (29, true), (30, true), (31, true), (32, true), (33, true)] mo (by kernel_rfl) hs fun _ => ?_
            have hs := hs.drew
            refine qst (.slice A0_ l0.length p0_) hk rfl rfl rfl rfl (fun w hs => sm _ rfl hk rfl rfl rfl fun a hk => qe hk) fun a hk => ?_
            refine qst (.int .i64 u10) hk rfl rfl rfl rfl (fun w hs => sm _ rfl hk rfl rfl rfl fun a hk => qe hk) fun a hk => ?_
            rcases ite_some H with ⟨c30, H⟩ | ⟨_, H⟩
            rotate_left
            · cases H
            obtain ⟨b31, q32, hAc30⟩ := (v0_).some_ u10 c30.1 c30.2
            refine qst (.pointer (some (padd A0_ (u10.toNat * 2)))) hk rfl rfl rfl rfl (fun w hs => si rfl hk rfl rfl rfl rfl un26 sz62 c30.1 c30.2 hAc30 fun a hk => qe hk) fun a hk => ?_
            refine qst (.pointer (some (padd A0_ (u10.toNat * 2)))) hk rfl rfl rfl rfl (fun w hs => sf (padd A0_ (u10.toNat * 2 + 0)) rfl hk rfl rfl rfl fd62_0 (padd_add _ _ _) fun a hk => qe hk) fun a hk => ?_
            obtain ⟨_, rfl, e33⟩ := (v0_).at_ z_Entry u10 c30.1 c30.2
            refine qst (.int .i64 ((l0.getD u10.toNat z_Entry).Key)) hk rfl rfl rfl rfl (fun w hs => sl (v := (.int .i64 ((l0.getD u10.toNat z_Entry).Key))) rfl hk rfl rfl rfl ag3 ((e33 0 _ rfl).cell (hs.hasD (k := 1) rfl)) fun a hk => qe hk) fun a hk => ?_
            obtain ⟨y34, h35, H⟩ := bind_some H
            refine qst (.bool y34) hk rfl rfl rfl rfl (fun w hs => sc rfl en104 hk rfl rfl rfl (spec_l01In_t _ ((l0.getD u10.toNat z_Entry).Key) 1 9999 _ h35) fun _ w hR a hk => qc hR hk) fun a hk => ?_
            refine qst (.bool (!y34)) hk rfl rfl rfl rfl (fun w hs => sv (.bool (!y34)) hk rfl rfl rfl fun a hk => qe hk) fun a hk => ?_
            refine qst (.bool (!y34)) hk rfl rfl rfl rfl (fun w hs => sm _ rfl hk rfl rfl rfl fun a hk => qe hk) fun a hk => ?_
            rcases cond_some H with ⟨c36, H⟩ | ⟨c36, H⟩
            · have hk := hk.lit 20 c36 rfl
              refine qsk hk rfl rfl rfl rfl fun a hk => ?_
              refine qsk hk rfl rfl rfl rfl fun a hk => ?_
              refine qsk hk rfl rfl rfl rfl fun a hk => ?_
              refine qsk hk rfl rfl rfl rfl fun a hk => ?_
              refine qsk hk rfl rfl rfl rfl fun a hk => ?_
              refine qsk hk rfl rfl rfl rfl fun a hk => ?_
              refine qsk hk rfl rfl rfl rfl fun a hk => ?_
              refine qst (.bool true) hk rfl rfl rfl rfl (fun w hs => sv (.bool true) hk rfl rfl rfl fun a hk => qe hk) fun a hk => ?_
              refine qst (.bool true) hk rfl rfl rfl rfl (fun w hs => sm _ rfl hk rfl rfl rfl fun a hk => qe hk) fun a hk => ?_
              refine qsk hk rfl rfl rfl rfl fun a hk => ?_
              refine qsk hk rfl rfl rfl rfl fun a hk => ?_
              refine qsk hk rfl rfl rfl rfl fun a hk => ?_
              refine qsk hk rfl rfl rfl rfl fun a hk => ?_
              refine qsk hk rfl rfl rfl rfl fun a hk => ?_
              refine qsk hk rfl rfl rfl rfl fun a hk => ?_
              refine qsk hk rfl rfl rfl rfl fun a hk => ?_
              refine qsk hk rfl rfl rfl rfl fun a hk => ?_
              refine qsk hk rfl rfl rfl rfl fun a hk => ?_
              refine qsk hk rfl rfl rfl rfl fun a hk => ?_
              refine qsk hk rfl rfl rfl rfl fun a hk => ?_
              refine qsk hk rfl rfl rfl rfl fun a hk => ?_
              refine qsk hk rfl rfl rfl rfl fun a hk => ?_
              refine qsk hk rfl rfl rfl rfl fun a hk => ?_
              refine qsk hk rfl rfl rfl rfl fun a hk => ?_
              refine qsk hk rfl rfl rfl rfl fun a hk => ?_
              refine qst (.bool true) hk rfl rfl rfl rfl (fun w hs => sv (.bool true) hk rfl rfl rfl fun a hk => qe hk) fun a hk => ?_
              refine wml_nil fun w hF _ => ?_
              have hs := hs.f hF
              obtain rfl := Option.some.inj H
              show R29 _ _
              rw [hR29]
              exact ⟨true, rfl, (hk.c 0 rfl (hk.c 3 rfl (hk.c 46 rfl hk.k))), (hs.pick [] rfl)⟩
            · have hk := hk.lit 20 c36 rfl
              refine qst (.slice A0_ l0.length p0_) hk rfl rfl rfl rfl (fun w hs => sm _ rfl hk rfl rfl rfl fun a hk => qe hk) fun a hk => ?_
              refine qst (.int .i64 u10) hk rfl rfl rfl rfl (fun w hs => sm _ rfl hk rfl rfl rfl fun a hk => qe hk) fun a hk => ?_
              rcases ite_some H with ⟨c37, H⟩ | ⟨_, H⟩
              rotate_left
              · cases H
              obtain ⟨b38, q39, hAc37⟩ := (v0_).some_ u10 c37.1 c37.2
              refine qst (.pointer (some (padd A0_ (u10.toNat * 2)))) hk rfl rfl rfl rfl (fun w hs => si rfl hk rfl rfl rfl rfl un26 sz62 c37.1 c37.2 hAc37 fun a hk => qe hk) fun a hk => ?_
              refine qst (.pointer (some (padd A0_ (u10.toNat * 2 + 1)))) hk rfl rfl rfl rfl (fun w hs => sf (padd A0_ (u10.toNat * 2 + 1)) rfl hk rfl rfl rfl fd62_1 (padd_add _ _ _) fun a hk => qe hk) fun a hk => ?_
              obtain ⟨_, rfl, e40⟩ := (v0_).at_ z_Entry u10 c37.1 c37.2
              refine qst (.int .i64 ((l0.getD u10.toNat z_Entry).Value)) hk rfl rfl rfl rfl (fun w hs => sl (v := (.int .i64 ((l0.getD u10.toNat z_Entry).Value))) rfl hk rfl rfl rfl ag3 ((e40 1 _ rfl).cell (hs.hasD (k := 1) rfl)) fun a hk => qe hk) fun a hk => ?_
              obtain ⟨y41, h42, H⟩ := bind_some H
              refine qst (.bool y41) hk rfl rfl rfl rfl (fun w hs => sc rfl en104 hk rfl rfl rfl (spec_l01In_t _ ((l0.getD u10.toNat z_Entry).Value) 0 999999 _ h42) fun _ w hR a hk => qc hR hk) fun a hk => ?_
              refine qst (.bool (!y41)) hk rfl rfl rfl rfl (fun w hs => sv (.bool (!y41)) hk rfl rfl rfl fun a hk => qe hk) fun a hk => ?_
              refine qst (.bool (!y41)) hk rfl rfl rfl rfl (fun w hs => sv (.bool (!y41)) hk rfl rfl rfl fun a hk => qe hk) fun a hk => ?_
              refine qst (.bool (!y41)) hk rfl rfl rfl rfl (fun w hs => sm _ rfl hk rfl rfl rfl fun a hk => qe hk) fun a hk => ?_
              rcases cond_some H with ⟨c43, H⟩ | ⟨c43, H⟩
              · have hk := hk.lit 29 c43 rfl
                refine qsk hk rfl rfl rfl rfl fun a hk => ?_
                refine qsk hk rfl rfl rfl rfl fun a hk => ?_
                refine qsk hk rfl rfl rfl rfl fun a hk => ?_
                refine qsk hk rfl rfl rfl rfl fun a hk => ?_
                refine qsk hk rfl rfl rfl rfl fun a hk => ?_
                refine qsk hk rfl rfl rfl rfl fun a hk => ?_
                refine qsk hk rfl rfl rfl rfl fun a hk => ?_
                refine qsk hk rfl rfl rfl rfl fun a hk => ?_
                refine qsk hk rfl rfl rfl rfl fun a hk => ?_
                refine qsk hk rfl rfl rfl rfl fun a hk => ?_
                refine qsk hk rfl rfl rfl rfl fun a hk => ?_
                refine qsk hk rfl rfl rfl rfl fun a hk => ?_
                refine qsk hk rfl rfl rfl rfl fun a hk => ?_
                refine qsk hk rfl rfl rfl rfl fun a hk => ?_
                refine qsk hk rfl rfl rfl rfl fun a hk => ?_
                refine qsk hk rfl rfl rfl rfl fun a hk => ?_
                refine qst (.bool true) hk rfl rfl rfl rfl (fun w hs => sv (.bool true) hk rfl rfl rfl fun a hk => qe hk) fun a hk => ?_
                refine wml_nil fun w hF _ => ?_
                have hs := hs.f hF
                obtain rfl := Option.some.inj H
                show R29 _ _
                rw [hR29]
                exact ⟨true, rfl, (hk.c 0 rfl (hk.c 3 rfl (hk.c 46 rfl hk.k))), (hs.pick [] rfl)⟩
              · have hk := hk.lit 29 c43 rfl
                refine qst (.int .i64 u10) hk rfl rfl rfl rfl (fun w hs => sm _ rfl hk rfl rfl rfl fun a hk => qe hk) fun a hk => ?_
                refine qst (.bool (decide (u10 > 0))) hk rfl rfl rfl rfl (fun w hs => sv (.bool (decide (u10 > 0))) hk rfl rfl rfl fun a hk => qe hk) fun a hk => ?_
                refine qst (.bool (decide (u10 > 0))) hk rfl rfl rfl rfl (fun w hs => sm _ rfl hk rfl rfl rfl fun a hk => qe hk) fun a hk => ?_
                rcases cond_some H with ⟨c44, H⟩ | ⟨c44, H⟩
                · have hk := hk.lit 32 c44 rfl
                  refine qst (.slice A0_ l0.length p0_) hk rfl rfl rfl rfl (fun w hs => sm _ rfl hk rfl rfl rfl fun a hk => qe hk) fun a hk => ?_
                  refine qst (.int .i64 u10) hk rfl rfl rfl rfl (fun w hs => sm _ rfl hk rfl rfl rfl fun a hk => qe hk) fun a hk => ?_
                  refine qst (.int .i64 (w64 (u10 - 1))) hk rfl rfl rfl rfl (fun w hs => sv (.int .i64 (w64 (u10 - 1))) hk rfl rfl rfl fun a hk => qe hk) fun a hk => ?_
                  rcases ite_some H with ⟨c45, H⟩ | ⟨_, H⟩
                  rotate_left
                  · cases H
                  obtain ⟨b46, q47, hAc45⟩ := (v0_).some_ (w64 (u10 - 1)) c45.1 c45.2
                  refine qst (.pointer (some (padd A0_ ((w64 (u10 - 1)).toNat * 2)))) hk rfl rfl rfl rfl (fun w hs => si rfl hk rfl rfl rfl rfl un26 sz62 c45.1 c45.2 hAc45 fun a hk => qe hk) fun a hk => ?_
                  refine qst (.pointer (some (padd A0_ ((w64 (u10 - 1)).toNat * 2)))) hk rfl rfl rfl rfl (fun w hs => sf (padd A0_ ((w64 (u10 - 1)).toNat * 2 + 0)) rfl hk rfl rfl rfl fd62_0 (padd_add _ _ _) fun a hk => qe hk) fun a hk => ?_
                  obtain ⟨_, rfl, e48⟩ := (v0_).at_ z_Entry (w64 (u10 - 1)) c45.1 c45.2
                  refine qst (.int .i64 ((l0.getD (w64 (u10 - 1)).toNat z_Entry).Key)) hk rfl rfl rfl rfl (fun w hs => sl (v := (.int .i64 ((l0.getD (w64 (u10 - 1)).toNat z_Entry).Key))) rfl hk rfl rfl rfl ag3 ((e48 0 _ rfl).cell (hs.hasD (k := 1) rfl)) fun a hk => qe hk) fun a hk => ?_
                  refine qst (.slice A0_ l0.length p0_) hk rfl rfl rfl rfl (fun w hs => sm _ rfl hk rfl rfl rfl fun a hk => qe hk) fun a hk => ?_
                  refine qst (.int .i64 u10) hk rfl rfl rfl rfl (fun w hs => sm _ rfl hk rfl rfl rfl fun a hk => qe hk) fun a hk => ?_
                  rcases ite_some H with ⟨c49, H⟩ | ⟨_, H⟩
                  rotate_left
                  · cases H
                  obtain ⟨b50, q51, hAc49⟩ := (v0_).some_ u10 c49.1 c49.2
                  refine qst (.pointer (some (padd A0_ (u10.toNat * 2)))) hk rfl rfl rfl rfl (fun w hs => si rfl hk rfl rfl rfl rfl un26 sz62 c49.1 c49.2 hAc49 fun a hk => qe hk) fun a hk => ?_
                  refine qst (.pointer (some (padd A0_ (u10.toNat * 2)))) hk rfl rfl rfl rfl (fun w hs => sf (padd A0_ (u10.toNat * 2 + 0)) rfl hk rfl rfl rfl fd62_0 (padd_add _ _ _) fun a hk => qe hk) fun a hk => ?_
                  obtain ⟨_, rfl, e52⟩ := (v0_).at_ z_Entry u10 c49.1 c49.2
                  refine qst (.int .i64 ((l0.getD u10.toNat z_Entry).Key)) hk rfl rfl rfl rfl (fun w hs => sl (v := (.int .i64 ((l0.getD u10.toNat z_Entry).Key))) rfl hk rfl rfl rfl ag3 ((e52 0 _ rfl).cell (hs.hasD (k := 1) rfl)) fun a hk => qe hk) fun a hk => ?_
                  refine qst (.bool (decide (((l0.getD (w64 (u10 - 1)).toNat z_Entry).Key) ≥ ((l0.getD u10.toNat z_Entry).Key)))) hk rfl rfl rfl rfl (fun w hs => sv (.bool (decide (((l0.getD (w64 (u10 - 1)).toNat z_Entry).Key) ≥ ((l0.getD u10.toNat z_Entry).Key)))) hk rfl rfl rfl fun a hk => qe hk) fun a hk => ?_
                  refine qst (.bool (decide (((l0.getD (w64 (u10 - 1)).toNat z_Entry).Key) ≥ ((l0.getD u10.toNat z_Entry).Key)))) hk rfl rfl rfl rfl (fun w hs => sv (.bool (decide (((l0.getD (w64 (u10 - 1)).toNat z_Entry).Key) ≥ ((l0.getD u10.toNat z_Entry).Key)))) hk rfl rfl rfl fun a hk => qe hk) fun a hk => ?_
                  refine qst (.bool (decide (((l0.getD (w64 (u10 - 1)).toNat z_Entry).Key) ≥ ((l0.getD u10.toNat z_Entry).Key)))) hk rfl rfl rfl rfl (fun w hs => sv (.bool (decide (((l0.getD (w64 (u10 - 1)).toNat z_Entry).Key) ≥ ((l0.getD u10.toNat z_Entry).Key)))) hk rfl rfl rfl fun a hk => qe hk) fun a hk => ?_
                  refine wml_nil fun w hF _ => ?_
                  have hs := hs.f hF
                  obtain rfl := Option.some.inj H
                  show R29 _ _
                  rw [hR29]
                  exact ⟨(decide (((l0.getD (w64 (u10 - 1)).toNat z_Entry).Key) ≥ ((l0.getD u10.toNat z_Entry).Key))), rfl, (hk.c 0 rfl (hk.c 3 rfl (hk.c 46 rfl hk.k))), (hs.pick [] rfl)⟩
                · have hk := hk.lit 32 c44 rfl
                  refine qsk hk rfl rfl rfl rfl fun a hk => ?_
                  refine qsk hk rfl rfl rfl rfl fun a hk => ?_
                  refine qsk hk rfl rfl rfl rfl fun a hk => ?_
                  refine qsk hk rfl rfl rfl rfl fun a hk => ?_
                  refine qsk hk rfl rfl rfl rfl fun a hk => ?_
                  refine qsk hk rfl rfl rfl rfl fun a hk => ?_
                  refine qsk hk rfl rfl rfl rfl fun a hk => ?_
                  refine qsk hk rfl rfl rfl rfl fun a hk => ?_
                  refine qsk hk rfl rfl rfl rfl fun a hk => ?_
                  refine qsk hk rfl rfl rfl rfl fun a hk => ?_
                  refine qsk hk rfl rfl rfl rfl fun a hk => ?_
                  refine qsk hk rfl rfl rfl rfl fun a hk => ?_
                  refine qst (.bool false) hk rfl rfl rfl rfl (fun w hs => sv (.bool false) hk rfl rfl rfl fun a hk => qe hk) fun a hk => ?_
                  refine qst (.bool false) hk rfl rfl rfl rfl (fun w hs => sv (.bool false) hk rfl rfl rfl fun a hk => qe hk) fun a hk => ?_
                  refine wml_nil fun w hF _ => ?_
                  have hs := hs.f hF
                  obtain rfl := Option.some.inj H
                  show R29 _ _
                  rw [hR29]
                  exact ⟨false, rfl, (hk.c 0 rfl (hk.c 3 rfl (hk.c 46 rfl hk.k))), (hs.pick [] rfl)⟩
          · intro a w hR0
            rw [hR29] at hR0
            obtain ⟨u25, rfl, hk, hs⟩ := hR0
            have H := HL28
            try dsimp only at H
            refine hK23 _ _ ?_
            rcases cond_some H with ⟨c53, H⟩ | ⟨c53, H⟩
            · have hk := hk.lit 46 c53 rfl
              refine cnd_true hk rfl rfl ?_
              apply wp_seq_k; intro K54 hK54
              apply wp_region_lit
              refine sa _ rfl hk rfl rfl rfl fun a hk => ?_
              show wpList _ _ _ [] _ _
              refine wpList_nil ?_
              refine hK54 _ _ ?_
              refine wp_ret ?_
              obtain rfl := Option.some.inj H
              have ho11 := h18
              try dsimp only at ho11
              subst ho11
              have H := HL13
              try dsimp only at H
              obtain rfl := Option.some.inj H
              exact fin hk _ [(.bool false)] rfl ⟨rfl, trivial⟩ ⟨rfl, (hs.pick [] rfl).dnil⟩
            · have hk := hk.lit 46 c53 rfl
              refine cnd_false hk rfl rfl ?_
              refine wp_skip ?_
              refine hK22 _ _ ?_
              apply wp_region_lit
              refine sm _ rfl hk rfl rfl rfl fun a hk => ?_
              refine sv (.int .i64 (w64 (u10 + 1))) hk rfl rfl rfl fun a hk => ?_
              refine sa _ rfl hk rfl rfl rfl fun a hk => ?_
              show wpList _ _ _ [] _ _
              refine wpList_nil ?_
              obtain rfl := Option.some.inj H
              obtain ⟨m55, hmm55, h18⟩ := h18
              show ∃ n', n' < _ ∧ I15 n' _ _
              refine ⟨m55, hmm55, ?_⟩
              rw [hI15]
              exact ⟨(w64 (u10 + 1)), h18, (hk.c 0 rfl (hk.c 3 rfl hk.k)), (hs.pick [] rfl)⟩
        · have hk := hk.lit 10 c21 rfl
          refine cnd_false hk rfl rfl ?_
          refine wp_exit ?_
          obtain rfl := Option.some.inj H
          show R14 _ _
          rw [hR14]
          exact ⟨h18.symm, (hk.c 0 rfl hk.k), (hs.pick [] rfl)⟩
    · intro a w hR0
      rw [hR14] at hR0
      obtain ⟨rfl, hk, hs⟩ := hR0
      have H := HL13
      try dsimp only at H
      refine hK6 _ _ ?_
      apply wp_seq_k; intro K56 hK56
      apply wp_region_lit
      refine sm _ rfl hk rfl rfl rfl fun a hk => ?_
      refine sle rfl hk rfl rfl rfl un26 fun a hk => ?_
      refine sv (.bool (decide ((l0.length : Int) ≤ 11))) hk rfl rfl rfl fun a hk => ?_
      refine sa _ rfl hk rfl rfl rfl fun a hk => ?_
      show wpList _ _ _ [] _ _
      refine wpList_nil ?_
      refine hK56 _ _ ?_
      refine wp_ret ?_
      obtain rfl := Option.some.inj H
      exact fin hk _ [(.bool (decide ((l0.length : Int) ≤ 11)))] rfl ⟨rfl, trivial⟩ ⟨rfl, (hs.pick [] rfl).dnil⟩

noncomputable def spec_OpOK.f (x0 : S_Op) : Option (Bool) :=
  ((((spec_l01In.f x0.Kind 1 6).bind fun y11 => (bif (!y11) then (some true) else ((spec_l01In.f x0.Key 1 9999).bind fun y14 => (some (!y14))))) : Option (Bool)).bind fun u6 => (bif u6 then (some false) else (((bif (x0.Kind == 1) then (some true) else (some (x0.Kind == 3))) : Option (Bool)).bind fun u23 => (bif u23 then (some (x0.Value == 0)) else (bif (x0.Kind == 6) then ((spec_l01In.f x0.Value 1 4).bind fun y34 => (some y34)) else ((spec_l01In.f x0.Value 0 999999).bind fun y37 => (some y37)))))))
set_option maxRecDepth 100000 in
set_option maxHeartbeats 0 in
theorem spec_OpOK_t (w0 : World) (x0 : S_Op) (r : Bool) (H : spec_OpOK.f x0 = some r) :
    Calls Try.prog 64 #[.agg #[.int .i64 x0.Kind, .int .i64 x0.Key, .int .i64 x0.Value]] w0 (Ret (fun v w => v = .bool r ∧ Sat [] w0 w [] [])) := by
  have hs : Sat [] w0 w0 [] [] := Sat.init w0 [] [] (by simp) (by simp) List.nodup_nil (by simp [blks])
  unfold spec_OpOK.f at H
  refine enter Try.func64 rfl Try.ntmps64 rfl fun a hk => ?_
  apply wp_seq_k; intro K1 hK1
  apply wp_region_lit
  refine sbx 1 hs rfl hk rfl rfl rfl rfl fun b2 w a hk hs => ?_
  refine sa _ rfl hk rfl rfl rfl fun a hk => ?_
  show wpList _ _ _ [] _ _
  refine wpList_nil ?_
  refine hK1 _ _ ?_
  apply wp_seq_k; intro K3 hK3
  apply wp_seq_k; intro K4 hK4
  obtain ⟨o7, h8, HL9⟩ := bind_some H
  clear H
  obtain ⟨R10, hR10⟩ : ∃ R : Act → World → Prop, R = fun a w => ∃ (u6 : Bool), u6 = o7 ∧ Kn [(1, (.pointer (some ⟨b2, 0, none⟩))), (12, (.bool u6))] 29 a ∧ Sat [] w0 w [] [(1, [(b2, .cells #[.int .i64 x0.Kind, .int .i64 x0.Key, .int .i64 x0.Value] 31 (0, 0))])] := ⟨_, rfl⟩
  refine wp_cutq R10 ?_ ?_
  · have H := h8
    apply wp_region_lit
    refine sf ⟨b2, 0, none⟩ rfl hk rfl rfl rfl fd31_0 rfl fun a hk => ?_
    refine sl rfl hk rfl rfl rfl ag3 (box_cell hs (k := 1) rfl rfl) fun a hk => ?_
    obtain ⟨y11, h12, H⟩ := bind_some H
    refine sc rfl en104 hk rfl rfl rfl (spec_l01In_t _ x0.Kind 1 6 _ h12) ?_
    rintro _ w ⟨rfl, hG⟩ a hk
    have hs := hs.call0 hG
    refine sv (.bool (!y11)) hk rfl rfl rfl fun a hk => ?_
    refine sm _ rfl hk rfl rfl rfl fun a hk => ?_
    rcases cond_some H with ⟨c13, H⟩ | ⟨c13, H⟩
    · have hk := hk.lit 7 c13 rfl
      refine sk hk rfl rfl rfl fun a hk => ?_
      refine sk hk rfl rfl rfl fun a hk => ?_
      refine sk hk rfl rfl rfl fun a hk => ?_
      refine sk hk rfl rfl rfl fun a hk => ?_
      refine sv (.bool true) hk rfl rfl rfl fun a hk => ?_
      show wpList _ _ _ [] _ _
      refine wpList_nil ?_
      obtain rfl := Option.some.inj H
      show R10 _ _
      rw [hR10]
      exact ⟨true, rfl, (hk.c 1 rfl (hk.c 12 rfl hk.k)), (hs.pick [(1, 1)] rfl)⟩
    · have hk := hk.lit 7 c13 rfl
      refine sf ⟨b2, 1, none⟩ rfl hk rfl rfl rfl fd31_1 rfl fun a hk => ?_
      refine sl rfl hk rfl rfl rfl ag3 (box_cell hs (k := 1) rfl rfl) fun a hk => ?_
      obtain ⟨y14, h15, H⟩ := bind_some H
      refine sc rfl en104 hk rfl rfl rfl (spec_l01In_t _ x0.Key 1 9999 _ h15) ?_
      rintro _ w ⟨rfl, hG⟩ a hk
      have hs := hs.call0 hG
      refine sv (.bool (!y14)) hk rfl rfl rfl fun a hk => ?_
      refine sv (.bool (!y14)) hk rfl rfl rfl fun a hk => ?_
      show wpList _ _ _ [] _ _
      refine wpList_nil ?_
      obtain rfl := Option.some.inj H
      show R10 _ _
      rw [hR10]
      exact ⟨(!y14), rfl, (hk.c 1 rfl (hk.c 12 rfl hk.k)), (hs.pick [(1, 1)] rfl)⟩
  · intro a w hR0
    rw [hR10] at hR0
    obtain ⟨u6, rfl, hk, hs⟩ := hR0
    have H := HL9
    try dsimp only at H
    refine hK4 _ _ ?_
    rcases cond_some H with ⟨c16, H⟩ | ⟨c16, H⟩
    · have hk := hk.lit 12 c16 rfl
      refine cnd_true hk rfl rfl ?_
      apply wp_seq_k; intro K17 hK17
      apply wp_region_lit
      refine sa _ rfl hk rfl rfl rfl fun a hk => ?_
      show wpList _ _ _ [] _ _
      refine wpList_nil ?_
      refine hK17 _ _ ?_
      refine wp_ret ?_
      obtain rfl := Option.some.inj H
      exact fin hk _ [(.bool false)] rfl ⟨rfl, trivial⟩ ⟨rfl, (hs.pick [] rfl).dnil⟩
    · have hk := hk.lit 12 c16 rfl
      refine cnd_false hk rfl rfl ?_
      refine wp_skip ?_
      refine hK3 _ _ ?_
      apply wp_seq_k; intro K18 hK18
      apply wp_seq_k; intro K19 hK19
      apply wp_region_lit
      refine sf ⟨b2, 0, none⟩ rfl hk rfl rfl rfl fd31_0 rfl fun a hk => ?_
      refine sl rfl hk rfl rfl rfl ag3 (box_cell hs (k := 1) rfl rfl) fun a hk => ?_
      show wpList _ _ _ [] _ _
      refine wpList_nil ?_
      refine hK19 _ _ ?_
      refine wp_block ?_
      apply wp_seq_k; intro K20 hK20
      apply wp_seq_k; intro K21 hK21
      apply wp_region_lit
      refine sv (.bool (x0.Kind == 1)) hk rfl rfl rfl fun a hk => ?_
      refine sa _ rfl hk rfl rfl rfl fun a hk => ?_
      show wpList _ _ _ [] _ _
      refine wpList_nil ?_
      refine hK21 _ _ ?_
      obtain ⟨o24, h25, HL26⟩ := bind_some H
      clear H
      obtain ⟨R27, hR27⟩ : ∃ R : Act → World → Prop, R = fun a w => ∃ (u23 : Bool), u23 = o24 ∧ Kn [(1, (.pointer (some ⟨b2, 0, none⟩))), (14, (.int .i64 x0.Kind)), (15, (.bool u23))] 29 a ∧ Sat [] w0 w [] [(1, [(b2, .cells #[.int .i64 x0.Kind, .int .i64 x0.Key, .int .i64 x0.Value] 31 (0, 0))])] := ⟨_, rfl⟩
      refine wp_cutq R27 ?_ ?_
      · have H := h25
        rcases cond_some H with ⟨c28, H⟩ | ⟨c28, H⟩
        · have hk := hk.lit 15 c28 rfl
          refine cnd_true hk rfl rfl ?_
          refine wp_skip ?_
          obtain rfl := Option.some.inj H
          show R27 _ _
          rw [hR27]
          exact ⟨true, rfl, (hk.c 1 rfl (hk.c 14 rfl (hk.c 15 rfl hk.k))), (hs.pick [(1, 1)] rfl)⟩
        · have hk := hk.lit 15 c28 rfl
          refine cnd_false hk rfl rfl ?_
          apply wp_region_lit
          refine sv (.bool (x0.Kind == 3)) hk rfl rfl rfl fun a hk => ?_
          refine sa _ rfl hk rfl rfl rfl fun a hk => ?_
          show wpList _ _ _ [] _ _
          refine wpList_nil ?_
          obtain rfl := Option.some.inj H
          show R27 _ _
          rw [hR27]
          exact ⟨(x0.Kind == 3), rfl, (hk.c 1 rfl (hk.c 14 rfl (hk.c 15 rfl hk.k))), (hs.pick [(1, 1)] rfl)⟩
      · intro a w hR0
        rw [hR27] at hR0
        obtain ⟨u23, rfl, hk, hs⟩ := hR0
        have H := HL26
        try dsimp only at H
        refine hK20 _ _ ?_
        rcases cond_some H with ⟨c29, H⟩ | ⟨c29, H⟩
        · have hk := hk.lit 15 c29 rfl
          refine cnd_true hk rfl rfl ?_
          apply wp_seq_k; intro K30 hK30
          apply wp_region_lit
          refine sf ⟨b2, 2, none⟩ rfl hk rfl rfl rfl fd31_2 rfl fun a hk => ?_
          refine sl rfl hk rfl rfl rfl ag3 (box_cell hs (k := 1) rfl rfl) fun a hk => ?_
          refine sv (.bool (x0.Value == 0)) hk rfl rfl rfl fun a hk => ?_
          refine sa _ rfl hk rfl rfl rfl fun a hk => ?_
          show wpList _ _ _ [] _ _
          refine wpList_nil ?_
          refine hK30 _ _ ?_
          refine wp_ret ?_
          obtain rfl := Option.some.inj H
          exact fin hk _ [(.bool (x0.Value == 0))] rfl ⟨rfl, trivial⟩ ⟨rfl, (hs.pick [] rfl).dnil⟩
        · have hk := hk.lit 15 c29 rfl
          refine cnd_false hk rfl rfl ?_
          apply wp_seq_k; intro K31 hK31
          apply wp_region_lit
          refine sv (.bool (x0.Kind == 6)) hk rfl rfl rfl fun a hk => ?_
          refine sa _ rfl hk rfl rfl rfl fun a hk => ?_
          show wpList _ _ _ [] _ _
          refine wpList_nil ?_
          refine hK31 _ _ ?_
          rcases cond_some H with ⟨c32, H⟩ | ⟨c32, H⟩
          · have hk := hk.lit 21 c32 rfl
            refine cnd_true hk rfl rfl ?_
            apply wp_seq_k; intro K33 hK33
            apply wp_region_lit
            refine sf ⟨b2, 2, none⟩ rfl hk rfl rfl rfl fd31_2 rfl fun a hk => ?_
            refine sl rfl hk rfl rfl rfl ag3 (box_cell hs (k := 1) rfl rfl) fun a hk => ?_
            obtain ⟨y34, h35, H⟩ := bind_some H
            refine sc rfl en104 hk rfl rfl rfl (spec_l01In_t _ x0.Value 1 4 _ h35) ?_
            rintro _ w ⟨rfl, hG⟩ a hk
            have hs := hs.call0 hG
            refine sa _ rfl hk rfl rfl rfl fun a hk => ?_
            show wpList _ _ _ [] _ _
            refine wpList_nil ?_
            refine hK33 _ _ ?_
            refine wp_ret ?_
            obtain rfl := Option.some.inj H
            exact fin hk _ [(.bool y34)] rfl ⟨rfl, trivial⟩ ⟨rfl, (hs.pick [] rfl).dnil⟩
          · have hk := hk.lit 21 c32 rfl
            refine cnd_false hk rfl rfl ?_
            refine wp_skip ?_
            refine hK18 _ _ ?_
            apply wp_seq_k; intro K36 hK36
            apply wp_region_lit
            refine sf ⟨b2, 2, none⟩ rfl hk rfl rfl rfl fd31_2 rfl fun a hk => ?_
            refine sl rfl hk rfl rfl rfl ag3 (box_cell hs (k := 1) rfl rfl) fun a hk => ?_
            obtain ⟨y37, h38, H⟩ := bind_some H
            refine sc rfl en104 hk rfl rfl rfl (spec_l01In_t _ x0.Value 0 999999 _ h38) ?_
            rintro _ w ⟨rfl, hG⟩ a hk
            have hs := hs.call0 hG
            refine sa _ rfl hk rfl rfl rfl fun a hk => ?_
            show wpList _ _ _ [] _ _
            refine wpList_nil ?_
            refine hK36 _ _ ?_
            refine wp_ret ?_
            obtain rfl := Option.some.inj H
            exact fin hk _ [(.bool y37)] rfl ⟨rfl, trivial⟩ ⟨rfl, (hs.pick [] rfl).dnil⟩

noncomputable def spec_l09Txn.s0 (x0 : S_Txn) (u7 : Int) : Option ((Int) ⊕ Ex (Unit) (Bool)) :=
  (bif (decide (u7 < (x0.Ops.length : Int))) then (if 0 ≤ u7 ∧ u7 < (x0.Ops.length : Int) then ((spec_OpOK.f (x0.Ops.getD u7.toNat z_Op)).bind fun y25 => (bif (!y25) then (some (.inr (.ret false))) else (some (.inl (w64 (u7 + 1)))))) else none) else (some (.inr (.out ()))))
noncomputable def spec_l09Txn.f (x0 : S_Txn) : Option (Bool) :=
  ((loopO (fun s => spec_l09Txn.s0 x0 s) 0).bind fun o => match o with | .out _ => ((spec_l01In.f (x0.Ops.length : Int) 1 4).bind fun y31 => (some y31)) | .ret r => (some r))
set_option maxRecDepth 100000 in
set_option maxHeartbeats 0 in
theorem spec_l09Txn_t (w0 : World) (x0 : S_Txn) (A0_0 : Option Addr) (p0_0 : Nat) (k0_0 : Chunk) (v0_0 : View L_Op A0_0 p0_0 x0.Ops k0_0) (w0_0 : Has w0 k0_0) (r : Bool) (H : spec_l09Txn.f x0 = some r) :
    Calls Try.prog 72 #[.agg #[.slice A0_0 x0.Ops.length p0_0]] w0 (Ret (fun v w => v = .bool r ∧ Sat [] w0 w [] [])) := by
  have hs : Sat [] w0 w0 [(1, k0_0)] [] := Sat.init w0 [(1, k0_0)] [] (by simp only [List.mem_cons, List.not_mem_nil, or_false]; rintro x (rfl) <;> assumption) (by simp) List.nodup_nil (by simp [blks])
  unfold spec_l09Txn.f at H
  refine enter Try.func72 rfl Try.ntmps72 rfl fun a hk => ?_
  apply wp_seq_k; intro K1 hK1
  apply wp_region_lit
  refine sbx 2 hs rfl hk rfl rfl rfl rfl fun b2 w a hk hs => ?_
  refine sa _ rfl hk rfl rfl rfl fun a hk => ?_
  show wpList _ _ _ [] _ _
  refine wpList_nil ?_
  refine hK1 _ _ ?_
  apply wp_seq_k; intro K3 hK3
  apply wp_seq_k; intro K4 hK4
  apply wp_region_lit
  refine sa _ rfl hk rfl rfl rfl fun a hk => ?_
  show wpList _ _ _ [] _ _
  refine wpList_nil ?_
  refine hK4 _ _ ?_
  obtain ⟨o8, h9, HL10⟩ := bind_some H
  clear H
  obtain ⟨R11, hR11⟩ : ∃ R : Act → World → Prop, R = fun a w => o8 = .out () ∧ Kn [(1, (.pointer (some ⟨b2, 0, none⟩)))] 22 a ∧ Sat [] w0 w [(1, k0_0)] [(2, [(b2, .cells #[.slice A0_0 x0.Ops.length p0_0] 48 (0, 0))])] := ⟨_, rfl⟩
  refine wp_cutq R11 ?_ ?_
  · refine wp_block ?_
    obtain ⟨fu13, h9⟩ := loopO_some h9
    obtain ⟨I12, hI12⟩ : ∃ I : Nat → Act → World → Prop, I = fun fu a w => ∃ (u7 : Int), loopN (fun s => spec_l09Txn.s0 x0 s) fu u7 = some o8 ∧ Kn [(1, (.pointer (some ⟨b2, 0, none⟩))), (3, (.int .i64 u7))] 22 a ∧ Sat [] w0 w [(1, k0_0)] [(2, [(b2, .cells #[.slice A0_0 x0.Ops.length p0_0] 48 (0, 0))])] := ⟨_, rfl⟩
    refine wp_loop_ghost I12 fu13 ?_ ?_
    · rw [hI12]
      exact ⟨0, h9, (hk.c 1 rfl (hk.c 3 rfl hk.k)), (hs.pick [(2, 2)] rfl)⟩
    · clear h9 hk hs
      intro fu13 a w hI0
      rw [hI12] at hI0
      obtain ⟨u7, hi, hk, hs⟩ := hI0
      obtain ⟨x14, H, h15⟩ := loop_round hi
      try dsimp only at H
      unfold spec_l09Txn.s0 at H
      apply wp_seq_k; intro K16 hK16
      apply wp_seq_k; intro K17 hK17
      apply wp_region_lit
      refine sm _ rfl hk rfl rfl rfl fun a hk => ?_
      refine sf ⟨b2, 0, none⟩ rfl hk rfl rfl rfl fd48_0 rfl fun a hk => ?_
      refine sl rfl hk rfl rfl rfl ag46 (box_cell hs (k := 2) rfl rfl) fun a hk => ?_
      refine sle rfl hk rfl rfl rfl un46 fun a hk => ?_
      refine sv (.bool (decide (u7 < (x0.Ops.length : Int)))) hk rfl rfl rfl fun a hk => ?_
      show wpList _ _ _ [] _ _
      refine wpList_nil ?_
      refine hK17 _ _ ?_
      rcases cond_some H with ⟨c18, H⟩ | ⟨c18, H⟩
      · have hk := hk.lit 8 c18 rfl
        refine cnd_true hk rfl rfl ?_
        refine wp_skip ?_
        refine hK16 _ _ ?_
        apply wp_seq_k; intro K19 hK19
        refine wp_block ?_
        apply wp_seq_k; intro K20 hK20
        apply wp_region_lit
        refine sf ⟨b2, 0, none⟩ rfl hk rfl rfl rfl fd48_0 rfl fun a hk => ?_
        refine sl rfl hk rfl rfl rfl ag46 (box_cell hs (k := 2) rfl rfl) fun a hk => ?_
        refine sm _ rfl hk rfl rfl rfl fun a hk => ?_
        rcases ite_some H with ⟨c21, H⟩ | ⟨_, H⟩
        rotate_left
        · cases H
        obtain ⟨b22, q23, hAc21⟩ := (v0_0).some_ u7 c21.1 c21.2
        refine si rfl hk rfl rfl rfl rfl un46 sz31 c21.1 c21.2 hAc21 fun a hk => ?_
        obtain ⟨_, rfl, e24⟩ := (v0_0).at_ z_Op u7 c21.1 c21.2
        refine sln [.int .i64 ((x0.Ops.getD u7.toNat z_Op).Kind), .int .i64 ((x0.Ops.getD u7.toNat z_Op).Key), .int .i64 ((x0.Ops.getD u7.toNat z_Op).Value)] rfl hk rfl rfl rfl ag31 sz31 (cells_at e24 (hs.hasD (k := 1) rfl)) fun a hk => ?_
        obtain ⟨y25, h26, H⟩ := bind_some H
        refine sc rfl en64 hk rfl rfl rfl (spec_OpOK_t _ (x0.Ops.getD u7.toNat z_Op) _ h26) ?_
        rintro _ w ⟨rfl, hG⟩ a hk
        have hs := hs.call0 hG
        refine sv (.bool (!y25)) hk rfl rfl rfl fun a hk => ?_
        show wpList _ _ _ [] _ _
        refine wpList_nil ?_
        refine hK20 _ _ ?_
        rcases cond_some H with ⟨c27, H⟩ | ⟨c27, H⟩
        · have hk := hk.lit 17 c27 rfl
          refine cnd_true hk rfl rfl ?_
          apply wp_seq_k; intro K28 hK28
          apply wp_region_lit
          refine sa _ rfl hk rfl rfl rfl fun a hk => ?_
          show wpList _ _ _ [] _ _
          refine wpList_nil ?_
          refine hK28 _ _ ?_
          refine wp_ret ?_
          obtain rfl := Option.some.inj H
          have ho8 := h15
          try dsimp only at ho8
          subst ho8
          have H := HL10
          try dsimp only at H
          obtain rfl := Option.some.inj H
          exact fin hk _ [(.bool false)] rfl ⟨rfl, trivial⟩ ⟨rfl, (hs.pick [] rfl).dnil⟩
        · have hk := hk.lit 17 c27 rfl
          refine cnd_false hk rfl rfl ?_
          refine wp_skip ?_
          refine hK19 _ _ ?_
          apply wp_region_lit
          refine sm _ rfl hk rfl rfl rfl fun a hk => ?_
          refine sv (.int .i64 (w64 (u7 + 1))) hk rfl rfl rfl fun a hk => ?_
          refine sa _ rfl hk rfl rfl rfl fun a hk => ?_
          show wpList _ _ _ [] _ _
          refine wpList_nil ?_
          obtain rfl := Option.some.inj H
          obtain ⟨m29, hmm29, h15⟩ := h15
          show ∃ n', n' < _ ∧ I12 n' _ _
          refine ⟨m29, hmm29, ?_⟩
          rw [hI12]
          exact ⟨(w64 (u7 + 1)), h15, (hk.c 1 rfl (hk.c 3 rfl hk.k)), (hs.pick [(2, 2)] rfl)⟩
      · have hk := hk.lit 8 c18 rfl
        refine cnd_false hk rfl rfl ?_
        refine wp_exit ?_
        obtain rfl := Option.some.inj H
        show R11 _ _
        rw [hR11]
        exact ⟨h15.symm, (hk.c 1 rfl hk.k), (hs.pick [(2, 2)] rfl)⟩
  · intro a w hR0
    rw [hR11] at hR0
    obtain ⟨rfl, hk, hs⟩ := hR0
    have H := HL10
    try dsimp only at H
    refine hK3 _ _ ?_
    apply wp_seq_k; intro K30 hK30
    apply wp_region_lit
    refine sf ⟨b2, 0, none⟩ rfl hk rfl rfl rfl fd48_0 rfl fun a hk => ?_
    refine sl rfl hk rfl rfl rfl ag46 (box_cell hs (k := 2) rfl rfl) fun a hk => ?_
    refine sle rfl hk rfl rfl rfl un46 fun a hk => ?_
    obtain ⟨y31, h32, H⟩ := bind_some H
    refine sc rfl en104 hk rfl rfl rfl (spec_l01In_t _ (x0.Ops.length : Int) 1 4 _ h32) ?_
    rintro _ w ⟨rfl, hG⟩ a hk
    have hs := hs.call0 hG
    refine sa _ rfl hk rfl rfl rfl fun a hk => ?_
    show wpList _ _ _ [] _ _
    refine wpList_nil ?_
    refine hK30 _ _ ?_
    refine wp_ret ?_
    obtain rfl := Option.some.inj H
    exact fin hk _ [(.bool y31)] rfl ⟨rfl, trivial⟩ ⟨rfl, (hs.pick [] rfl).dnil⟩

noncomputable def spec_l10Find.s0 (l0 : List S_Entry) (x1 : Int) (u6 : Int) : Option ((Int) ⊕ Ex (Unit) (Int)) :=
  (bif (decide (u6 < (l0.length : Int))) then (if 0 ≤ u6 ∧ u6 < (l0.length : Int) then (bif (((l0.getD u6.toNat z_Entry).Key) == x1) then (some (.inr (.ret u6))) else (some (.inl (w64 (u6 + 1))))) else none) else (some (.inr (.out ()))))
noncomputable def spec_l10Find.f (l0 : List S_Entry) (x1 : Int) : Option (Int) :=
  ((loopO (fun s => spec_l10Find.s0 l0 x1 s) 0).bind fun o => match o with | .out _ => (some (-1)) | .ret r => (some r))
set_option maxRecDepth 100000 in
set_option maxHeartbeats 0 in
theorem spec_l10Find_t (w0 : World) (A0_ : Option Addr) (p0_ : Nat) (l0 : List S_Entry) (k0_ : Chunk) (v0_ : View L_Entry A0_ p0_ l0 k0_) (w0_ : Has w0 k0_) (x1 : Int) (r : Int) (H : spec_l10Find.f l0 x1 = some r) :
    Calls Try.prog 125 #[.slice A0_ l0.length p0_, .int .i64 x1] w0 (Ret (fun v w => v = .int .i64 r ∧ Sat [] w0 w [] [])) := by
  have hs : Sat [] w0 w0 [(1, k0_)] [] := Sat.init w0 [(1, k0_)] [] (by simp only [List.mem_cons, List.not_mem_nil, or_false]; rintro x (rfl) <;> assumption) (by simp) List.nodup_nil (by simp [blks])
  unfold spec_l10Find.f at H
  refine enter Try.func125 rfl Try.ntmps125 rfl fun a hk => ?_
  apply wp_seq_k; intro K1 hK1
  apply wp_region_lit
  refine sa _ rfl hk rfl rfl rfl fun a hk => ?_
  show wpList _ _ _ [] _ _
  refine wpList_nil ?_
  refine hK1 _ _ ?_
  apply wp_seq_k; intro K2 hK2
  apply wp_seq_k; intro K3 hK3
  apply wp_region_lit
  refine sa _ rfl hk rfl rfl rfl fun a hk => ?_
  show wpList _ _ _ [] _ _
  refine wpList_nil ?_
  refine hK3 _ _ ?_
  obtain ⟨o7, h8, HL9⟩ := bind_some H
  clear H
  obtain ⟨R10, hR10⟩ : ∃ R : Act → World → Prop, R = fun a w => o7 = .out () ∧ Kn [] 20 a ∧ Sat [] w0 w [(1, k0_)] [] := ⟨_, rfl⟩
  refine wp_cutq R10 ?_ ?_
  · refine wp_block ?_
    obtain ⟨fu12, h8⟩ := loopO_some h8
    obtain ⟨I11, hI11⟩ : ∃ I : Nat → Act → World → Prop, I = fun fu a w => ∃ (u6 : Int), loopN (fun s => spec_l10Find.s0 l0 x1 s) fu u6 = some o7 ∧ Kn [(0, (.slice A0_ l0.length p0_)), (1, (.int .i64 x1)), (5, (.int .i64 u6))] 20 a ∧ Sat [] w0 w [(1, k0_)] [] := ⟨_, rfl⟩
    refine wp_loop_ghost I11 fu12 ?_ ?_
    · rw [hI11]
      exact ⟨0, h8, (hk.c 0 rfl (hk.c 1 rfl (hk.c 5 rfl hk.k))), (hs.pick [] rfl)⟩
    · clear h8 hk hs
      intro fu12 a w hI0
      rw [hI11] at hI0
      obtain ⟨u6, hi, hk, hs⟩ := hI0
      obtain ⟨x13, H, h14⟩ := loop_round hi
      try dsimp only at H
      unfold spec_l10Find.s0 at H
      apply wp_seq_k; intro K15 hK15
      apply wp_seq_k; intro K16 hK16
      apply wp_region_lit
      refine sm _ rfl hk rfl rfl rfl fun a hk => ?_
      refine sm _ rfl hk rfl rfl rfl fun a hk => ?_
      refine sle rfl hk rfl rfl rfl un26 fun a hk => ?_
      refine sv (.bool (decide (u6 < (l0.length : Int)))) hk rfl rfl rfl fun a hk => ?_
      show wpList _ _ _ [] _ _
      refine wpList_nil ?_
      refine hK16 _ _ ?_
      rcases cond_some H with ⟨c17, H⟩ | ⟨c17, H⟩
      · have hk := hk.lit 9 c17 rfl
        refine cnd_true hk rfl rfl ?_
        refine wp_skip ?_
        refine hK15 _ _ ?_
        apply wp_seq_k; intro K18 hK18
        refine wp_block ?_
        apply wp_seq_k; intro K19 hK19
        apply wp_region_lit
        refine sm _ rfl hk rfl rfl rfl fun a hk => ?_
        refine sm _ rfl hk rfl rfl rfl fun a hk => ?_
        rcases ite_some H with ⟨c20, H⟩ | ⟨_, H⟩
        rotate_left
        · cases H
        obtain ⟨b21, q22, hAc20⟩ := (v0_).some_ u6 c20.1 c20.2
        refine si rfl hk rfl rfl rfl rfl un26 sz62 c20.1 c20.2 hAc20 fun a hk => ?_
        refine sf (padd A0_ (u6.toNat * 2 + 0)) rfl hk rfl rfl rfl fd62_0 (padd_add _ _ _) fun a hk => ?_
        obtain ⟨_, rfl, e23⟩ := (v0_).at_ z_Entry u6 c20.1 c20.2
        refine sl (v := (.int .i64 ((l0.getD u6.toNat z_Entry).Key))) rfl hk rfl rfl rfl ag3 ((e23 0 _ rfl).cell (hs.hasD (k := 1) rfl)) fun a hk => ?_
        refine sm _ rfl hk rfl rfl rfl fun a hk => ?_
        refine sv (.bool (((l0.getD u6.toNat z_Entry).Key) == x1)) hk rfl rfl rfl fun a hk => ?_
        show wpList _ _ _ [] _ _
        refine wpList_nil ?_
        refine hK19 _ _ ?_
        rcases cond_some H with ⟨c24, H⟩ | ⟨c24, H⟩
        · have hk := hk.lit 18 c24 rfl
          refine cnd_true hk rfl rfl ?_
          apply wp_seq_k; intro K25 hK25
          apply wp_region_lit
          refine sm _ rfl hk rfl rfl rfl fun a hk => ?_
          refine sa _ rfl hk rfl rfl rfl fun a hk => ?_
          show wpList _ _ _ [] _ _
          refine wpList_nil ?_
          refine hK25 _ _ ?_
          refine wp_ret ?_
          obtain rfl := Option.some.inj H
          have ho7 := h14
          try dsimp only at ho7
          subst ho7
          have H := HL9
          try dsimp only at H
          obtain rfl := Option.some.inj H
          exact fin hk _ [(.int .i64 u6)] rfl ⟨rfl, trivial⟩ ⟨rfl, (hs.pick [] rfl).dnil⟩
        · have hk := hk.lit 18 c24 rfl
          refine cnd_false hk rfl rfl ?_
          refine wp_skip ?_
          refine hK18 _ _ ?_
          apply wp_region_lit
          refine sm _ rfl hk rfl rfl rfl fun a hk => ?_
          refine sv (.int .i64 (w64 (u6 + 1))) hk rfl rfl rfl fun a hk => ?_
          refine sa _ rfl hk rfl rfl rfl fun a hk => ?_
          show wpList _ _ _ [] _ _
          refine wpList_nil ?_
          obtain rfl := Option.some.inj H
          obtain ⟨m26, hmm26, h14⟩ := h14
          show ∃ n', n' < _ ∧ I11 n' _ _
          refine ⟨m26, hmm26, ?_⟩
          rw [hI11]
          exact ⟨(w64 (u6 + 1)), h14, (hk.c 0 rfl (hk.c 1 rfl (hk.c 5 rfl hk.k))), (hs.pick [] rfl)⟩
      · have hk := hk.lit 9 c17 rfl
        refine cnd_false hk rfl rfl ?_
        refine wp_exit ?_
        obtain rfl := Option.some.inj H
        show R10 _ _
        rw [hR10]
        exact ⟨h14.symm, hk.k, (hs.pick [] rfl)⟩
  · intro a w hR0
    rw [hR10] at hR0
    obtain ⟨rfl, hk, hs⟩ := hR0
    have H := HL9
    try dsimp only at H
    refine hK2 _ _ ?_
    apply wp_seq_k; intro K27 hK27
    apply wp_region_lit
    refine sa _ rfl hk rfl rfl rfl fun a hk => ?_
    show wpList _ _ _ [] _ _
    refine wpList_nil ?_
    refine hK27 _ _ ?_
    refine wp_ret ?_
    obtain rfl := Option.some.inj H
    exact fin hk _ [(.int .i64 (-1))] rfl ⟨rfl, trivial⟩ ⟨rfl, (hs.pick [] rfl).dnil⟩

noncomputable def spec_l01Bit.f (x0 : Bool) : Option (Int) :=
  (bif x0 then (some 1) else (some 0))
set_option maxRecDepth 100000 in
set_option maxHeartbeats 0 in
theorem spec_l01Bit_t (w0 : World) (x0 : Bool) (r : Int) (H : spec_l01Bit.f x0 = some r) :
    Calls Try.prog 126 #[.bool x0] w0 (Ret (fun v w => v = .int .i64 r ∧ Sat [] w0 w [] [])) := by
  have hs : Sat [] w0 w0 [] [] := Sat.init w0 [] [] (by simp) (by simp) List.nodup_nil (by simp [blks])
  unfold spec_l01Bit.f at H
  refine enter Try.func126 rfl Try.ntmps126 rfl fun a hk => ?_
  apply wp_seq_k; intro K1 hK1
  apply wp_region_lit
  refine sa _ rfl hk rfl rfl rfl fun a hk => ?_
  show wpList _ _ _ [] _ _
  refine wpList_nil ?_
  refine hK1 _ _ ?_
  apply wp_seq_k; intro K2 hK2
  apply wp_seq_k; intro K3 hK3
  apply wp_region_lit
  refine sm _ rfl hk rfl rfl rfl fun a hk => ?_
  show wpList _ _ _ [] _ _
  refine wpList_nil ?_
  refine hK3 _ _ ?_
  rcases cond_some H with ⟨c4, H⟩ | ⟨c4, H⟩
  · have hk := hk.lit 3 c4 rfl
    refine cnd_true hk rfl rfl ?_
    apply wp_seq_k; intro K5 hK5
    apply wp_region_lit
    refine sa _ rfl hk rfl rfl rfl fun a hk => ?_
    show wpList _ _ _ [] _ _
    refine wpList_nil ?_
    refine hK5 _ _ ?_
    refine wp_ret ?_
    obtain rfl := Option.some.inj H
    exact fin hk _ [(.int .i64 1)] rfl ⟨rfl, trivial⟩ ⟨rfl, (hs.pick [] rfl).dnil⟩
  · have hk := hk.lit 3 c4 rfl
    refine cnd_false hk rfl rfl ?_
    refine wp_skip ?_
    refine hK2 _ _ ?_
    apply wp_seq_k; intro K6 hK6
    apply wp_region_lit
    refine sa _ rfl hk rfl rfl rfl fun a hk => ?_
    show wpList _ _ _ [] _ _
    refine wpList_nil ?_
    refine hK6 _ _ ?_
    refine wp_ret ?_
    obtain rfl := Option.some.inj H
    exact fin hk _ [(.int .i64 0)] rfl ⟨rfl, trivial⟩ ⟨rfl, (hs.pick [] rfl).dnil⟩

noncomputable def spec_l10Put.s0 (l0 : List S_Entry) (x1 : Int) (u6 : Int) : Option ((Int) ⊕ Ex (Int) ((List S_Entry))) :=
  (((bif (decide (u6 < (l0.length : Int))) then (if 0 ≤ u6 ∧ u6 < (l0.length : Int) then (some (decide (((l0.getD u6.toNat z_Entry).Key) < x1))) else none) else (some false)) : Option (Bool)).bind fun u19 => (bif u19 then (some (.inl (w64 (u6 + 1)))) else (some (.inr (.out u6)))))
noncomputable def spec_l10Put.f (l0 : List S_Entry) (x1 : Int) (x2 : Int) : Option ((List S_Entry)) :=
  ((loopO (fun s => spec_l10Put.s0 l0 x1 s) 0).bind fun o => match o with | .out u7 => (if 0 ≤ u7 ∧ u7 ≤ (l0.length : Int) then (((bif (decide (u7 < (l0.length : Int))) then (if 0 ≤ u7 ∧ u7 < (l0.length : Int) then (some (((l0.getD u7.toNat z_Entry).Key) == x1)) else none) else (some false)) : Option (Bool)).bind fun u38 => (((bif u38 then (if 0 ≤ (w64 (u7 + 1)) ∧ (w64 (u7 + 1)) ≤ (l0.length : Int) then (some (l0.drop (w64 (u7 + 1)).toNat)) else none) else (some (l0.drop u7.toNat))) : Option ((List S_Entry))).bind fun u49 => (if 0 ≤ u7 ∧ u7 ≤ (l0.length : Int) then (if ([] : List S_Entry).length + (l0.take u7.toNat).length ≤ 1073741824 then (if (([] : List S_Entry) ++ (l0.take u7.toNat)).length + ([(⟨x1, x2⟩ : S_Entry)]).length ≤ 1073741824 then (if ((([] : List S_Entry) ++ (l0.take u7.toNat)) ++ ([(⟨x1, x2⟩ : S_Entry)])).length + u49.length ≤ 1073741824 then (some (((([] : List S_Entry) ++ (l0.take u7.toNat)) ++ ([(⟨x1, x2⟩ : S_Entry)])) ++ u49)) else none) else none) else none) else none))) else none) | .ret r => (some r))
set_option maxRecDepth 100000 in
set_option maxHeartbeats 0 in
theorem spec_l10Put_t (w0 : World) (A0_ : Option Addr) (p0_ : Nat) (l0 : List S_Entry) (k0_ : Chunk) (v0_ : View L_Entry A0_ p0_ l0 k0_) (w0_ : Has w0 k0_) (x1 : Int) (x2 : Int) (r : (List S_Entry)) (H : spec_l10Put.f l0 x1 x2 = some r) :
    Calls Try.prog 127 #[.slice A0_ l0.length p0_, .int .i64 x1, .int .i64 x2] w0 (Ret (fun v w => ∃ (A0 : Option Addr) (p0 : Nat) (k0 : Chunk), v = .slice A0 r.length p0 ∧ Own L_Entry 62 A0 p0 r k0 ∧ Sat [] w0 w [] [(0, k0)])) := by
  have hs : Sat [] w0 w0 [(1, k0_)] [] := Sat.init w0 [(1, k0_)] [] (by simp only [List.mem_cons, List.not_mem_nil, or_false]; rintro x (rfl) <;> assumption) (by simp) List.nodup_nil (by simp [blks])
  unfold spec_l10Put.f at H
  refine enter Try.func127 rfl Try.ntmps127 rfl fun a hk => ?_
  apply wp_seq_k; intro K1 hK1
  apply wp_region_lit
  refine sa _ rfl hk rfl rfl rfl fun a hk => ?_
  show wpList _ _ _ [] _ _
  refine wpList_nil ?_
  refine hK1 _ _ ?_
  apply wp_seq_k; intro K2 hK2
  apply wp_region_lit
  refine sa _ rfl hk rfl rfl rfl fun a hk => ?_
  show wpList _ _ _ [] _ _
  refine wpList_nil ?_
  refine hK2 _ _ ?_
  apply wp_seq_k; intro K3 hK3
  obtain ⟨o8, h9, HL10⟩ := bind_some H
  clear H
  obtain ⟨R11, hR11⟩ : ∃ R : Act → World → Prop, R = fun a w => ∃ (u7 : Int), o8 = .out u7 ∧ Kn [(0, (.slice A0_ l0.length p0_)), (1, (.int .i64 x1)), (2, (.int .i64 x2)), (7, (.int .i64 u7))] 56 a ∧ Sat [] w0 w [(1, k0_)] [] := ⟨_, rfl⟩
  refine wp_cutq R11 ?_ ?_
  · refine wp_block ?_
    obtain ⟨fu13, h9⟩ := loopO_some h9
    obtain ⟨I12, hI12⟩ : ∃ I : Nat → Act → World → Prop, I = fun fu a w => ∃ (u6 : Int), loopN (fun s => spec_l10Put.s0 l0 x1 s) fu u6 = some o8 ∧ Kn [(0, (.slice A0_ l0.length p0_)), (1, (.int .i64 x1)), (2, (.int .i64 x2)), (7, (.int .i64 u6))] 56 a ∧ Sat [] w0 w [(1, k0_)] [] := ⟨_, rfl⟩
    refine wp_loop_ghost I12 fu13 ?_ ?_
    · rw [hI12]
      exact ⟨0, h9, (hk.c 0 rfl (hk.c 1 rfl (hk.c 2 rfl (hk.c 7 rfl hk.k)))), (hs.pick [] rfl)⟩
    · clear h9 hk hs
      intro fu13 a w hI0
      rw [hI12] at hI0
      obtain ⟨u6, hi, hk, hs⟩ := hI0
      obtain ⟨x14, H, h15⟩ := loop_round hi
      try dsimp only at H
      unfold spec_l10Put.s0 at H
      apply wp_seq_k; intro K16 hK16
      apply wp_seq_k; intro K17 hK17
      obtain ⟨o20, h21, HL22⟩ := bind_some H
      clear H
      obtain ⟨R23, hR23⟩ : ∃ R : Act → World → Prop, R = fun a w => ∃ (u19 : Bool), u19 = o20 ∧ Kn [(0, (.slice A0_ l0.length p0_)), (1, (.int .i64 x1)), (2, (.int .i64 x2)), (7, (.int .i64 u6)), (21, (.bool u19))] 56 a ∧ Sat [] w0 w [(1, k0_)] [] := ⟨_, rfl⟩
      refine wp_cutq R23 ?_ ?_
      · have H := h21
        apply wp_region_lit
        refine sm _ rfl hk rfl rfl rfl fun a hk => ?_
        refine sm _ rfl hk rfl rfl rfl fun a hk => ?_
        refine sle rfl hk rfl rfl rfl un26 fun a hk => ?_
        refine sv (.bool (decide (u6 < (l0.length : Int)))) hk rfl rfl rfl fun a hk => ?_
        refine sm _ rfl hk rfl rfl rfl fun a hk => ?_
        rcases cond_some H with ⟨c24, H⟩ | ⟨c24, H⟩
        · have hk := hk.lit 13 c24 rfl
          refine sm _ rfl hk rfl rfl rfl fun a hk => ?_
          refine sm _ rfl hk rfl rfl rfl fun a hk => ?_
          rcases ite_some H with ⟨c25, H⟩ | ⟨_, H⟩
          rotate_left
          · cases H
          obtain ⟨b26, q27, hAc25⟩ := (v0_).some_ u6 c25.1 c25.2
          refine si rfl hk rfl rfl rfl rfl un26 sz62 c25.1 c25.2 hAc25 fun a hk => ?_
          refine sf (padd A0_ (u6.toNat * 2 + 0)) rfl hk rfl rfl rfl fd62_0 (padd_add _ _ _) fun a hk => ?_
          obtain ⟨_, rfl, e28⟩ := (v0_).at_ z_Entry u6 c25.1 c25.2
          refine sl (v := (.int .i64 ((l0.getD u6.toNat z_Entry).Key))) rfl hk rfl rfl rfl ag3 ((e28 0 _ rfl).cell (hs.hasD (k := 1) rfl)) fun a hk => ?_
          refine sm _ rfl hk rfl rfl rfl fun a hk => ?_
          refine sv (.bool (decide (((l0.getD u6.toNat z_Entry).Key) < x1))) hk rfl rfl rfl fun a hk => ?_
          refine sv (.bool (decide (((l0.getD u6.toNat z_Entry).Key) < x1))) hk rfl rfl rfl fun a hk => ?_
          show wpList _ _ _ [] _ _
          refine wpList_nil ?_
          obtain rfl := Option.some.inj H
          show R23 _ _
          rw [hR23]
          exact ⟨(decide (((l0.getD u6.toNat z_Entry).Key) < x1)), rfl, (hk.c 0 rfl (hk.c 1 rfl (hk.c 2 rfl (hk.c 7 rfl (hk.c 21 rfl hk.k))))), (hs.pick [] rfl)⟩
        · have hk := hk.lit 13 c24 rfl
          refine sk hk rfl rfl rfl fun a hk => ?_
          refine sk hk rfl rfl rfl fun a hk => ?_
          refine sk hk rfl rfl rfl fun a hk => ?_
          refine sk hk rfl rfl rfl fun a hk => ?_
          refine sk hk rfl rfl rfl fun a hk => ?_
          refine sk hk rfl rfl rfl fun a hk => ?_
          refine sk hk rfl rfl rfl fun a hk => ?_
          refine sv (.bool false) hk rfl rfl rfl fun a hk => ?_
          show wpList _ _ _ [] _ _
          refine wpList_nil ?_
          obtain rfl := Option.some.inj H
          show R23 _ _
          rw [hR23]
          exact ⟨false, rfl, (hk.c 0 rfl (hk.c 1 rfl (hk.c 2 rfl (hk.c 7 rfl (hk.c 21 rfl hk.k))))), (hs.pick [] rfl)⟩
      · intro a w hR0
        rw [hR23] at hR0
        obtain ⟨u19, rfl, hk, hs⟩ := hR0
        have H := HL22
        try dsimp only at H
        refine hK17 _ _ ?_
        rcases cond_some H with ⟨c29, H⟩ | ⟨c29, H⟩
        · have hk := hk.lit 21 c29 rfl
          refine cnd_true hk rfl rfl ?_
          refine wp_skip ?_
          refine hK16 _ _ ?_
          refine wp_block ?_
          apply wp_region_lit
          refine sm _ rfl hk rfl rfl rfl fun a hk => ?_
          refine sv (.int .i64 (w64 (u6 + 1))) hk rfl rfl rfl fun a hk => ?_
          refine sa _ rfl hk rfl rfl rfl fun a hk => ?_
          show wpList _ _ _ [] _ _
          refine wpList_nil ?_
          obtain rfl := Option.some.inj H
          obtain ⟨m30, hmm30, h15⟩ := h15
          show ∃ n', n' < _ ∧ I12 n' _ _
          refine ⟨m30, hmm30, ?_⟩
          rw [hI12]
          exact ⟨(w64 (u6 + 1)), h15, (hk.c 0 rfl (hk.c 1 rfl (hk.c 2 rfl (hk.c 7 rfl hk.k)))), (hs.pick [] rfl)⟩
        · have hk := hk.lit 21 c29 rfl
          refine cnd_false hk rfl rfl ?_
          refine wp_exit ?_
          obtain rfl := Option.some.inj H
          show R11 _ _
          rw [hR11]
          exact ⟨u6, h15.symm, (hk.c 0 rfl (hk.c 1 rfl (hk.c 2 rfl (hk.c 7 rfl hk.k)))), (hs.pick [] rfl)⟩
  · intro a w hR0
    rw [hR11] at hR0
    obtain ⟨u7, rfl, hk, hs⟩ := hR0
    have H := HL10
    try dsimp only at H
    refine hK3 _ _ ?_
    apply wp_seq_k; intro K31 hK31
    apply wp_region_lit
    refine sm _ rfl hk rfl rfl rfl fun a hk => ?_
    refine sm _ rfl hk rfl rfl rfl fun a hk => ?_
    rcases ite_some H with ⟨c32, H⟩ | ⟨_, H⟩
    rotate_left
    · cases H
    refine sll_l rfl hk rfl rfl rfl rfl un26 sz62 c32.1 c32.2 fun a hk => ?_
    have v33 : View L_Entry (if p0_ = u7.toNat then A0_ else (A0_ : Option Addr).map (·.add (u7.toNat * 2))) (p0_ - u7.toNat) (l0.drop u7.toNat) k0_ := (v0_).dropv u7.toNat (by omega)
    have lh34 : (l0.drop u7.toNat).length = (l0.length - u7.toNat) := (by rw [List.length_drop])
    refine sa _ rfl hk rfl rfl rfl fun a hk => ?_
    show wpList _ _ _ [] _ _
    refine wpList_nil ?_
    refine hK31 _ _ ?_
    apply wp_seq_k; intro K35 hK35
    apply wp_seq_k; intro K36 hK36
    obtain ⟨o39, h40, HL41⟩ := bind_some H
    clear H
    obtain ⟨R42, hR42⟩ : ∃ R : Act → World → Prop, R = fun a w => ∃ (u38 : Bool), u38 = o39 ∧ Kn [(0, (.slice A0_ l0.length p0_)), (1, (.int .i64 x1)), (2, (.int .i64 x2)), (7, (.int .i64 u7)), (8, (.slice (if p0_ = u7.toNat then A0_ else (A0_ : Option Addr).map (·.add (u7.toNat * 2))) (l0.length - u7.toNat) (p0_ - u7.toNat))), (39, (.bool u38))] 56 a ∧ Sat [] w0 w [(1, k0_)] [] := ⟨_, rfl⟩
    refine wp_cutq R42 ?_ ?_
    · have H := h40
      apply wp_region_lit
      refine sm _ rfl hk rfl rfl rfl fun a hk => ?_
      refine sm _ rfl hk rfl rfl rfl fun a hk => ?_
      refine sle rfl hk rfl rfl rfl un26 fun a hk => ?_
      refine sv (.bool (decide (u7 < (l0.length : Int)))) hk rfl rfl rfl fun a hk => ?_
      refine sm _ rfl hk rfl rfl rfl fun a hk => ?_
      rcases cond_some H with ⟨c43, H⟩ | ⟨c43, H⟩
      · have hk := hk.lit 31 c43 rfl
        refine sm _ rfl hk rfl rfl rfl fun a hk => ?_
        refine sm _ rfl hk rfl rfl rfl fun a hk => ?_
        rcases ite_some H with ⟨c44, H⟩ | ⟨_, H⟩
        rotate_left
        · cases H
        obtain ⟨b45, q46, hAc44⟩ := (v0_).some_ u7 c44.1 c44.2
        refine si rfl hk rfl rfl rfl rfl un26 sz62 c44.1 c44.2 hAc44 fun a hk => ?_
        refine sf (padd A0_ (u7.toNat * 2 + 0)) rfl hk rfl rfl rfl fd62_0 (padd_add _ _ _) fun a hk => ?_
        obtain ⟨_, rfl, e47⟩ := (v0_).at_ z_Entry u7 c44.1 c44.2
        refine sl (v := (.int .i64 ((l0.getD u7.toNat z_Entry).Key))) rfl hk rfl rfl rfl ag3 ((e47 0 _ rfl).cell (hs.hasD (k := 1) rfl)) fun a hk => ?_
        refine sm _ rfl hk rfl rfl rfl fun a hk => ?_
        refine sv (.bool (((l0.getD u7.toNat z_Entry).Key) == x1)) hk rfl rfl rfl fun a hk => ?_
        refine sv (.bool (((l0.getD u7.toNat z_Entry).Key) == x1)) hk rfl rfl rfl fun a hk => ?_
        show wpList _ _ _ [] _ _
        refine wpList_nil ?_
        obtain rfl := Option.some.inj H
        show R42 _ _
        rw [hR42]
        exact ⟨(((l0.getD u7.toNat z_Entry).Key) == x1), rfl, (hk.c 0 rfl (hk.c 1 rfl (hk.c 2 rfl (hk.c 7 rfl (hk.c 8 rfl (hk.c 39 rfl hk.k)))))), (hs.pick [] rfl)⟩
      · have hk := hk.lit 31 c43 rfl
        refine sk hk rfl rfl rfl fun a hk => ?_
        refine sk hk rfl rfl rfl fun a hk => ?_
        refine sk hk rfl rfl rfl fun a hk => ?_
        refine sk hk rfl rfl rfl fun a hk => ?_
        refine sk hk rfl rfl rfl fun a hk => ?_
        refine sk hk rfl rfl rfl fun a hk => ?_
        refine sk hk rfl rfl rfl fun a hk => ?_
        refine sv (.bool false) hk rfl rfl rfl fun a hk => ?_
        show wpList _ _ _ [] _ _
        refine wpList_nil ?_
        obtain rfl := Option.some.inj H
        show R42 _ _
        rw [hR42]
        exact ⟨false, rfl, (hk.c 0 rfl (hk.c 1 rfl (hk.c 2 rfl (hk.c 7 rfl (hk.c 8 rfl (hk.c 39 rfl hk.k)))))), (hs.pick [] rfl)⟩
    · intro a w hR0
      rw [hR42] at hR0
      obtain ⟨u38, rfl, hk, hs⟩ := hR0
      have H := HL41
      try dsimp only at H
      refine hK36 _ _ ?_
      obtain ⟨o53, h54, HL55⟩ := bind_some H
      clear H
      obtain ⟨R56, hR56⟩ : ∃ R : Act → World → Prop, R = fun a w => ∃ (u49 : List S_Entry) (A50 : Option Addr) (p51 : Nat), u49 = o53 ∧ Kn [(0, (.slice A0_ l0.length p0_)), (1, (.int .i64 x1)), (2, (.int .i64 x2)), (7, (.int .i64 u7)), (8, (.slice A50 u49.length p51))] 56 a ∧ Sat [] w0 w [(1, k0_)] [] ∧ View L_Entry A50 p51 u49 k0_ := ⟨_, rfl⟩
      refine wp_cutq R56 ?_ ?_
      · have H := h54
        rcases cond_some H with ⟨c57, H⟩ | ⟨c57, H⟩
        · have hk := hk.lit 39 c57 rfl
          refine cnd_true hk rfl rfl ?_
          apply wp_region_lit
          refine sm _ rfl hk rfl rfl rfl fun a hk => ?_
          refine sm _ rfl hk rfl rfl rfl fun a hk => ?_
          refine sv (.int .i64 (w64 (u7 + 1))) hk rfl rfl rfl fun a hk => ?_
          rcases ite_some H with ⟨c58, H⟩ | ⟨_, H⟩
          rotate_left
          · cases H
          refine sll_l rfl hk rfl rfl rfl rfl un26 sz62 c58.1 c58.2 fun a hk => ?_
          have v59 : View L_Entry (if p0_ = (w64 (u7 + 1)).toNat then A0_ else (A0_ : Option Addr).map (·.add ((w64 (u7 + 1)).toNat * 2))) (p0_ - (w64 (u7 + 1)).toNat) (l0.drop (w64 (u7 + 1)).toNat) k0_ := (v0_).dropv (w64 (u7 + 1)).toNat (by omega)
          have lh60 : (l0.drop (w64 (u7 + 1)).toNat).length = (l0.length - (w64 (u7 + 1)).toNat) := (by rw [List.length_drop])
          refine sa _ rfl hk rfl rfl rfl fun a hk => ?_
          show wpList _ _ _ [] _ _
          refine wpList_nil ?_
          obtain rfl := Option.some.inj H
          show R56 _ _
          rw [hR56]
          exact ⟨(l0.drop (w64 (u7 + 1)).toNat), (if p0_ = (w64 (u7 + 1)).toNat then A0_ else (A0_ : Option Addr).map (·.add ((w64 (u7 + 1)).toNat * 2))), (p0_ - (w64 (u7 + 1)).toNat), rfl, (hk.c 0 rfl (hk.c 1 rfl (hk.c 2 rfl (hk.c 7 rfl (hk.cl 8 rfl (by rw [lh60]) hk.k))))), (hs.pick [] rfl), v59⟩
        · have hk := hk.lit 39 c57 rfl
          refine cnd_false hk rfl rfl ?_
          refine wp_skip ?_
          obtain rfl := Option.some.inj H
          show R56 _ _
          rw [hR56]
          exact ⟨(l0.drop u7.toNat), (if p0_ = u7.toNat then A0_ else (A0_ : Option Addr).map (·.add (u7.toNat * 2))), (p0_ - u7.toNat), rfl, (hk.c 0 rfl (hk.c 1 rfl (hk.c 2 rfl (hk.c 7 rfl (hk.cl 8 rfl (by rw [lh34]) hk.k))))), (hs.pick [] rfl), v33⟩
      · intro a w hR0
        rw [hR56] at hR0
        obtain ⟨u49, A50, p51, rfl, hk, hs, v52⟩ := hR0
        have H := HL55
        try dsimp only at H
        refine hK35 _ _ ?_
        apply wp_seq_k; intro K61 hK61
        apply wp_region_lit
        refine sbs0 6 L_Entry hs rfl hk rfl rfl un26 sz62 fun b62 k63 w a hk o64 hs => ?_
        refine sm _ rfl hk rfl rfl rfl fun a hk => ?_
        refine sm _ rfl hk rfl rfl rfl fun a hk => ?_
        rcases ite_some H with ⟨c65, H⟩ | ⟨_, H⟩
        rotate_left
        · cases H
        refine sll_h rfl hk rfl rfl rfl rfl un26 sz62 c65.1 (by have := (v0_).le_cap; omega) fun a hk => ?_
        have v66 : View L_Entry (if p0_ = 0 then A0_ else (A0_ : Option Addr).map (·.add (0 * 2))) (p0_ - 0) (l0.take u7.toNat) k0_ := (v0_).takev u7.toNat (by omega)
        have lh67 : (l0.take u7.toNat).length = (u7.toNat - 0) := (by rw [List.length_take]; omega)
        rcases ite_some H with ⟨c68, H⟩ | ⟨_, H⟩
        rotate_left
        · cases H
        refine sap 6 (xs := ([] : List S_Entry)) (ys := (l0.take u7.toNat)) (flat_flat : (L_Entry).Flat) hs rfl o64 v66 (hs.hasD (k := 1) rfl) rfl hk rfl rfl rfl rfl lh67.symm rfl un26 mk62 rfl rfl rfl c68 fun A69 p70 k71 w a hk o72 hs => ?_
        refine sm _ rfl hk rfl rfl rfl fun a hk => ?_
        refine sm _ rfl hk rfl rfl rfl fun a hk => ?_
        refine sbd (pv := [(0, (.int .i64 x1)), (1, (.int .i64 x2))]) rfl hk rfl rfl rfl (bd62_0 x1 x2) fun a hk => ?_
        refine sbs (L := L_Entry) (pv := [(0, (.agg #[.int .i64 x1, .int .i64 x2]))]) (xs := [(⟨x1, x2⟩ : S_Entry)]) (ess := [[.int .i64 x1, .int .i64 x2]]) 7 hs rfl hk rfl rfl rfl un26 (bs62_1 x1 x2) (AllOwn.cons0 ⟨rfl, rfl⟩ AllOwn.nil) rfl rfl rfl fun b73 k74 w a hk o75 hs => ?_
        rcases ite_some H with ⟨c76, H⟩ | ⟨_, H⟩
        rotate_left
        · cases H
        refine sap 6 (xs := (([] : List S_Entry) ++ (l0.take u7.toNat))) (ys := [(⟨x1, x2⟩ : S_Entry)]) (flat_flat : (L_Entry).Flat) hs rfl o72 o75.view (hs.hasG (k := 7) rfl) rfl hk rfl rfl rfl rfl rfl rfl un26 mk62 rfl rfl rfl c76 fun A77 p78 k79 w a hk o80 hs => ?_
        refine sm _ rfl hk rfl rfl rfl fun a hk => ?_
        rcases ite_some H with ⟨c81, H⟩ | ⟨_, H⟩
        rotate_left
        · cases H
        refine sap 6 (xs := ((([] : List S_Entry) ++ (l0.take u7.toNat)) ++ ([(⟨x1, x2⟩ : S_Entry)]))) (ys := u49) (flat_flat : (L_Entry).Flat) hs rfl o80 v52 (hs.hasD (k := 1) rfl) rfl hk rfl rfl rfl rfl rfl rfl un26 mk62 rfl rfl rfl c81 fun A82 p83 k84 w a hk o85 hs => ?_
        refine sa _ rfl hk rfl rfl rfl fun a hk => ?_
        show wpList _ _ _ [] _ _
        refine wpList_nil ?_
        refine hK61 _ _ ?_
        refine wp_ret ?_
        obtain rfl := Option.some.inj H
        exact fin hk _ [(.slice A82 (((([] : List S_Entry) ++ (l0.take u7.toNat)) ++ ([(⟨x1, x2⟩ : S_Entry)])) ++ u49).length p83)] rfl ⟨rfl, trivial⟩ ⟨A82, p83, _, rfl, o85, (hs.pick [(0, 6)] rfl).dnil⟩

noncomputable def spec_l10Do.s0 (l0 : List S_Entry) (x1 : S_Op) (u105 : List Int) (u104 : Int) : Option (((List Int) × Int) ⊕ Ex ((List Int)) ((List S_Entry) × (List Int) × Int)) :=
  (((bif (decide (u104 < (l0.length : Int))) then (some (decide ((u105.length : Int) < (w64 (2 * x1.Value))))) else (some false)) : Option (Bool)).bind fun u126 => (bif u126 then (if 0 ≤ u104 ∧ u104 < (l0.length : Int) then (((bif (decide (((l0.getD u104.toNat z_Entry).Key) ≥ x1.Key)) then (if 0 ≤ u104 ∧ u104 < (l0.length : Int) then (if 0 ≤ u104 ∧ u104 < (l0.length : Int) then (if u105.length + ([(l0.getD u104.toNat z_Entry).Key, (l0.getD u104.toNat z_Entry).Value]).length ≤ 1073741824 then (some (u105 ++ ([(l0.getD u104.toNat z_Entry).Key, (l0.getD u104.toNat z_Entry).Value]))) else none) else none) else none) else (some u105)) : Option ((List Int))).bind fun u141 => (some (.inl (u141, (w64 (u104 + 1)))))) else none) else (some (.inr (.out u105)))))
noncomputable def spec_l10Do.s1 (x1 : S_Op) (u176 : List Int) : Option (((List Int)) ⊕ Ex ((List Int)) ((List S_Entry) × (List Int) × Int)) :=
  (bif (decide ((u176.length : Int) < (w64 (2 * x1.Value)))) then (if u176.length + ([0]).length ≤ 1073741824 then (some (.inl (u176 ++ ([0])))) else none) else (some (.inr (.out u176))))
noncomputable def spec_l10Do.f (l0 : List S_Entry) (x1 : S_Op) : Option ((List S_Entry) × (List Int) × Int) :=
  ((spec_l10Find.f l0 x1.Key).bind fun y4 => (((bif (decide (y4 ≥ 0)) then (if 0 ≤ y4 ∧ y4 < (l0.length : Int) then (some ((l0.getD y4.toNat z_Entry).Value)) else none) else (some 0)) : Option (Int)).bind fun u10 => (bif (x1.Kind == 1) then ((spec_l01Bit.f (decide (y4 ≥ 0))).bind fun y25 => (some (l0, [y25, u10], 0))) else (bif (x1.Kind == 3) then (((bif (decide (y4 ≥ 0)) then (if 0 ≤ y4 ∧ y4 ≤ (l0.length : Int) then (if 0 ≤ (w64 (y4 + 1)) ∧ (w64 (y4 + 1)) ≤ (l0.length : Int) then (if ([] : List S_Entry).length + (l0.take y4.toNat).length ≤ 1073741824 then (if (([] : List S_Entry) ++ (l0.take y4.toNat)).length + (l0.drop (w64 (y4 + 1)).toNat).length ≤ 1073741824 then (some ((([] : List S_Entry) ++ (l0.take y4.toNat)) ++ (l0.drop (w64 (y4 + 1)).toNat))) else none) else none) else none) else none) else (some l0)) : Option ((List S_Entry))).bind fun u35 => ((spec_l01Bit.f (decide (y4 ≥ 0))).bind fun y65 => (some (u35, [y65], 0)))) else (bif (x1.Kind == 4) then (((bif (decide (y4 < 0)) then (some true) else (some (u10 != x1.Value))) : Option (Bool)).bind fun u75 => (bif u75 then (some (l0, ([] : List Int), 14)) else (some (l0, ([] : List Int), 0)))) else (bif (x1.Kind == 6) then ((loopO (fun s => spec_l10Do.s0 l0 x1 s.1 s.2) (([] : List Int), 0)).bind fun o => match o with | .out u110 => ((loopO (fun s => spec_l10Do.s1 x1 s) u110).bind fun o => match o with | .out u181 => (some (l0, u181, 0)) | .ret r => (some r)) | .ret r => (some r)) else (((bif (decide (y4 < 0)) then (some ((l0.length : Int) == 11)) else (some false)) : Option (Bool)).bind fun u210 => (bif u210 then (some (l0, ([] : List Int), 7)) else (bif (x1.Kind == 2) then ((spec_l10Put.f l0 x1.Key x1.Value).bind fun y225 => (some (y225, ([] : List Int), 0))) else (bif (decide ((w64 (u10 + x1.Value)) > 999999)) then (some (l0, ([] : List Int), 4)) else ((spec_l10Put.f l0 x1.Key (w64 (u10 + x1.Value))).bind fun y_r242_7_1 => (some (y_r242_7_1, [(w64 (u10 + x1.Value))], 0)))))))))))))
set_option maxRecDepth 100000 in
set_option maxHeartbeats 0 in
theorem spec_l10Do_t (w0 : World) (A0_ : Option Addr) (p0_ : Nat) (l0 : List S_Entry) (k0_ : Chunk) (v0_ : View L_Entry A0_ p0_ l0 k0_) (w0_ : Has w0 k0_) (x1 : S_Op) (r : (List S_Entry) × (List Int) × Int) (H : spec_l10Do.f l0 x1 = some r) :
    Calls Try.prog 65 #[.slice A0_ l0.length p0_, .agg #[.int .i64 x1.Kind, .int .i64 x1.Key, .int .i64 x1.Value]] w0 (Ret (fun v w => ∃ (A0 : Option Addr) (p0 : Nat), ∃ (A1 : Option Addr) (p1 : Nat) (k1 : Chunk), ∃ (kS : Chunk), v = .tuple #[.slice A0 r.1.length p0, .slice A1 r.2.1.length p1, .int .i64 r.2.2] ∧ View L_Entry A0 p0 r.1 (k0_ ++ kS) ∧ Own (Lay.int .i64) 3 A1 p1 r.2.1 k1 ∧ Sat [] w0 w [] [(0, k1), (1, kS)])) := by
  have hs : Sat [] w0 w0 [(1, k0_)] [] := Sat.init w0 [(1, k0_)] [] (by simp only [List.mem_cons, List.not_mem_nil, or_false]; rintro x (rfl) <;> assumption) (by simp) List.nodup_nil (by simp [blks])
  unfold spec_l10Do.f at H
  refine enter Try.func65 rfl Try.ntmps65 rfl fun a hk => ?_
  apply wp_seq_k; intro K1 hK1
  apply wp_region_lit
  refine sbx 2 hs rfl hk rfl rfl rfl rfl fun b2 w a hk hs => ?_
  refine sa _ rfl hk rfl rfl rfl fun a hk => ?_
  refine sa _ rfl hk rfl rfl rfl fun a hk => ?_
  refine sa _ rfl hk rfl rfl rfl fun a hk => ?_
  show wpList _ _ _ [] _ _
  refine wpList_nil ?_
  refine hK1 _ _ ?_
  apply wp_seq_k; intro K3 hK3
  apply wp_region_lit
  refine sm _ rfl hk rfl rfl rfl fun a hk => ?_
  refine sf ⟨b2, 1, none⟩ rfl hk rfl rfl rfl fd31_1 rfl fun a hk => ?_
  refine sl rfl hk rfl rfl rfl ag3 (box_cell hs (k := 2) rfl rfl) fun a hk => ?_
  obtain ⟨y4, h5, H⟩ := bind_some H
  refine sc rfl en125 hk rfl rfl rfl (spec_l10Find_t _ A0_ p0_ l0 _ v0_ (hs.hasD (k := 1) rfl) x1.Key _ h5) ?_
  rintro _ w ⟨rfl, hG⟩ a hk
  have hs := hs.call0 hG
  refine sa _ rfl hk rfl rfl rfl fun a hk => ?_
  show wpList _ _ _ [] _ _
  refine wpList_nil ?_
  refine hK3 _ _ ?_
  apply wp_seq_k; intro K6 hK6
  apply wp_region_lit
  refine sa _ rfl hk rfl rfl rfl fun a hk => ?_
  show wpList _ _ _ [] _ _
  refine wpList_nil ?_
  refine hK6 _ _ ?_
  apply wp_seq_k; intro K7 hK7
  apply wp_seq_k; intro K8 hK8
  apply wp_region_lit
  refine sm _ rfl hk rfl rfl rfl fun a hk => ?_
  refine sv (.bool (decide (y4 ≥ 0))) hk rfl rfl rfl fun a hk => ?_
  show wpList _ _ _ [] _ _
  refine wpList_nil ?_
  refine hK8 _ _ ?_
  obtain ⟨o11, h12, HL13⟩ := bind_some H
  clear H
  obtain ⟨R14, hR14⟩ : ∃ R : Act → World → Prop, R = fun a w => ∃ (u10 : Int), u10 = o11 ∧ Kn [(0, (.slice A0_ l0.length p0_)), (3, (.pointer (some ⟨b2, 0, none⟩))), (7, (.int .i64 y4)), (8, (.int .i64 u10))] 153 a ∧ Sat [] w0 w [(1, k0_)] [(2, [(b2, .cells #[.int .i64 x1.Kind, .int .i64 x1.Key, .int .i64 x1.Value] 31 (0, 0))])] := ⟨_, rfl⟩
  refine wp_cutq R14 ?_ ?_
  · have H := h12
    rcases cond_some H with ⟨c15, H⟩ | ⟨c15, H⟩
    · have hk := hk.lit 16 c15 rfl
      refine cnd_true hk rfl rfl ?_
      apply wp_region_lit
      refine sm _ rfl hk rfl rfl rfl fun a hk => ?_
      refine sm _ rfl hk rfl rfl rfl fun a hk => ?_
      rcases ite_some H with ⟨c16, H⟩ | ⟨_, H⟩
      rotate_left
      · cases H
      obtain ⟨b17, q18, hAc16⟩ := (v0_).some_ y4 c16.1 c16.2
      refine si rfl hk rfl rfl rfl rfl un26 sz62 c16.1 c16.2 hAc16 fun a hk => ?_
      refine sf (padd A0_ (y4.toNat * 2 + 1)) rfl hk rfl rfl rfl fd62_1 (padd_add _ _ _) fun a hk => ?_
      obtain ⟨_, rfl, e19⟩ := (v0_).at_ z_Entry y4 c16.1 c16.2
      refine sl (v := (.int .i64 ((l0.getD y4.toNat z_Entry).Value))) rfl hk rfl rfl rfl ag3 ((e19 1 _ rfl).cell (hs.hasD (k := 1) rfl)) fun a hk => ?_
      refine sa _ rfl hk rfl rfl rfl fun a hk => ?_
      show wpList _ _ _ [] _ _
      refine wpList_nil ?_
      obtain rfl := Option.some.inj H
      show R14 _ _
      rw [hR14]
      exact ⟨(l0.getD y4.toNat z_Entry).Value, rfl, (hk.c 0 rfl (hk.c 3 rfl (hk.c 7 rfl (hk.c 8 rfl hk.k)))), (hs.pick [(2, 2)] rfl)⟩
    · have hk := hk.lit 16 c15 rfl
      refine cnd_false hk rfl rfl ?_
      refine wp_skip ?_
      obtain rfl := Option.some.inj H
      show R14 _ _
      rw [hR14]
      exact ⟨0, rfl, (hk.c 0 rfl (hk.c 3 rfl (hk.c 7 rfl (hk.c 8 rfl hk.k)))), (hs.pick [(2, 2)] rfl)⟩
  · intro a w hR0
    rw [hR14] at hR0
    obtain ⟨u10, rfl, hk, hs⟩ := hR0
    have H := HL13
    try dsimp only at H
    refine hK7 _ _ ?_
    apply wp_seq_k; intro K20 hK20
    apply wp_seq_k; intro K21 hK21
    apply wp_region_lit
    refine sf ⟨b2, 0, none⟩ rfl hk rfl rfl rfl fd31_0 rfl fun a hk => ?_
    refine sl rfl hk rfl rfl rfl ag3 (box_cell hs (k := 2) rfl rfl) fun a hk => ?_
    show wpList _ _ _ [] _ _
    refine wpList_nil ?_
    refine hK21 _ _ ?_
    refine wp_block ?_
    apply wp_seq_k; intro K22 hK22
    apply wp_region_lit
    refine sv (.bool (x1.Kind == 1)) hk rfl rfl rfl fun a hk => ?_
    refine sa _ rfl hk rfl rfl rfl fun a hk => ?_
    show wpList _ _ _ [] _ _
    refine wpList_nil ?_
    refine hK22 _ _ ?_
    rcases cond_some H with ⟨c23, H⟩ | ⟨c23, H⟩
    · have hk := hk.lit 24 c23 rfl
      refine cnd_true hk rfl rfl ?_
      apply wp_seq_k; intro K24 hK24
      apply wp_region_lit
      refine sm _ rfl hk rfl rfl rfl fun a hk => ?_
      refine sm _ rfl hk rfl rfl rfl fun a hk => ?_
      refine sv (.bool (decide (y4 ≥ 0))) hk rfl rfl rfl fun a hk => ?_
      obtain ⟨y25, h26, H⟩ := bind_some H
      refine sc rfl en126 hk rfl rfl rfl (spec_l01Bit_t _ (decide (y4 ≥ 0)) _ h26) ?_
      rintro _ w ⟨rfl, hG⟩ a hk
      have hs := hs.call0 hG
      refine sm _ rfl hk rfl rfl rfl fun a hk => ?_
      refine sbs (L := (Lay.int .i64)) (pv := [(0, (.int .i64 y25)), (1, (.int .i64 u10))]) (xs := [y25, u10]) (ess := [[.int .i64 y25], [.int .i64 u10]]) 4 hs rfl hk rfl rfl rfl un27 (bs3_2 y25 u10) (AllOwn.cons0 ⟨rfl, rfl⟩ (AllOwn.cons0 ⟨rfl, rfl⟩ AllOwn.nil)) rfl rfl rfl fun b27 k28 w a hk o29 hs => ?_
      refine sa _ rfl hk rfl rfl rfl fun a hk => ?_
      refine sa _ rfl hk rfl rfl rfl fun a hk => ?_
      refine sa _ rfl hk rfl rfl rfl fun a hk => ?_
      show wpList _ _ _ [] _ _
      refine wpList_nil ?_
      refine hK24 _ _ ?_
      refine wp_ret ?_
      obtain rfl := Option.some.inj H
      exact fin hk _ [(.slice A0_ l0.length p0_), (.slice (some ⟨b27, 0, none⟩) 2 2), (.int .i64 0)] rfl ⟨rfl, ⟨rfl, ⟨rfl, trivial⟩⟩⟩ ⟨A0_, p0_, (some ⟨b27, 0, none⟩), 2, _, _, rfl, (v0_).sub (Sub.l _ (Sub.refl _)), o29, ((hs.addNil 3000).pick [(0, 4), (1, 3000)] rfl).dnil⟩
    · have hk := hk.lit 24 c23 rfl
      refine cnd_false hk rfl rfl ?_
      apply wp_seq_k; intro K30 hK30
      apply wp_region_lit
      refine sv (.bool (x1.Kind == 3)) hk rfl rfl rfl fun a hk => ?_
      refine sa _ rfl hk rfl rfl rfl fun a hk => ?_
      show wpList _ _ _ [] _ _
      refine wpList_nil ?_
      refine hK30 _ _ ?_
      rcases cond_some H with ⟨c31, H⟩ | ⟨c31, H⟩
      · have hk := hk.lit 32 c31 rfl
        refine cnd_true hk rfl rfl ?_
        apply wp_seq_k; intro K32 hK32
        apply wp_seq_k; intro K33 hK33
        apply wp_region_lit
        refine sm _ rfl hk rfl rfl rfl fun a hk => ?_
        refine sv (.bool (decide (y4 ≥ 0))) hk rfl rfl rfl fun a hk => ?_
        show wpList _ _ _ [] _ _
        refine wpList_nil ?_
        refine hK33 _ _ ?_
        obtain ⟨o39, h40, HL41⟩ := bind_some H
        clear H
        obtain ⟨R42, hR42⟩ : ∃ R : Act → World → Prop, R = fun a w => ∃ (u35 : List S_Entry) (A36 : Option Addr) (p37 : Nat) (kf34 : Chunk), u35 = o39 ∧ Kn [(0, (.slice A36 u35.length p37)), (7, (.int .i64 y4))] 153 a ∧ Sat [] w0 w [(1, k0_)] [(5, kf34)] ∧ View L_Entry A36 p37 u35 (k0_ ++ kf34) := ⟨_, rfl⟩
        refine wp_cutq R42 ?_ ?_
        · have H := h40
          rcases cond_some H with ⟨c43, H⟩ | ⟨c43, H⟩
          · have hk := hk.lit 35 c43 rfl
            refine cnd_true hk rfl rfl ?_
            refine wp_region_tree (.q 1 (.q 2 (.q 3 (.q 5 (.q 6 (.q 7 (.q 8 (.alt 0 (.alt 4 (.alt 9 (.last 10) .stop) .stop) .stop)))))))) mo (by kernel_rfl) (hs.pick [(2, 2)] rfl) fun _ => ?_
            have hs := hs.drew
            refine tqst (.slice A0_ l0.length p0_) hk rfl rfl rfl rfl (fun w hs => sm _ rfl hk rfl rfl rfl fun a hk => qe hk) fun a hk => ?_
            refine tqst (.int .i64 y4) hk rfl rfl rfl rfl (fun w hs => sm _ rfl hk rfl rfl rfl fun a hk => qe hk) fun a hk => ?_
            rcases ite_some H with ⟨c45, H⟩ | ⟨_, H⟩
            rotate_left
            · cases H
            refine tqst (.slice (if p0_ = 0 then A0_ else (A0_ : Option Addr).map (·.add (0 * 2))) (y4.toNat - 0) (p0_ - 0)) hk rfl rfl rfl rfl (fun w hs => sll_h rfl hk rfl rfl rfl rfl un26 sz62 c45.1 (by have := (v0_).le_cap; omega) fun a hk => qe hk) fun a hk => ?_
            have v46 : View L_Entry (if p0_ = 0 then A0_ else (A0_ : Option Addr).map (·.add (0 * 2))) (p0_ - 0) (l0.take y4.toNat) k0_ := (v0_).takev y4.toNat (by omega)
            have lh47 : (l0.take y4.toNat).length = (y4.toNat - 0) := (by rw [List.length_take]; omega)
            refine tqst (.slice A0_ l0.length p0_) hk rfl rfl rfl rfl (fun w hs => sm _ rfl hk rfl rfl rfl fun a hk => qe hk) fun a hk => ?_
            refine tqst (.int .i64 y4) hk rfl rfl rfl rfl (fun w hs => sm _ rfl hk rfl rfl rfl fun a hk => qe hk) fun a hk => ?_
            refine tqst (.int .i64 (w64 (y4 + 1))) hk rfl rfl rfl rfl (fun w hs => sv (.int .i64 (w64 (y4 + 1))) hk rfl rfl rfl fun a hk => qe hk) fun a hk => ?_
            rcases ite_some H with ⟨c48, H⟩ | ⟨_, H⟩
            rotate_left
            · cases H
            refine tqst (.slice (if p0_ = (w64 (y4 + 1)).toNat then A0_ else (A0_ : Option Addr).map (·.add ((w64 (y4 + 1)).toNat * 2))) (l0.length - (w64 (y4 + 1)).toNat) (p0_ - (w64 (y4 + 1)).toNat)) hk rfl rfl rfl rfl (fun w hs => sll_l rfl hk rfl rfl rfl rfl un26 sz62 c48.1 c48.2 fun a hk => qe hk) fun a hk => ?_
            have v49 : View L_Entry (if p0_ = (w64 (y4 + 1)).toNat then A0_ else (A0_ : Option Addr).map (·.add ((w64 (y4 + 1)).toNat * 2))) (p0_ - (w64 (y4 + 1)).toNat) (l0.drop (w64 (y4 + 1)).toNat) k0_ := (v0_).dropv (w64 (y4 + 1)).toNat (by omega)
            have lh50 : (l0.drop (w64 (y4 + 1)).toNat).length = (l0.length - (w64 (y4 + 1)).toNat) := (by rw [List.length_drop])
            refine tsst hk rfl rfl (fun K_r44_0 hK_r44_0 w hF => ?_) wt_stop
            have hs := hs.f hF
            refine sbs0 7 L_Entry hs rfl hk rfl rfl un26 sz62 fun b51 k52 w a hk o53 hs => ?_
            refine se (hs.pick [(2, 2)] rfl) hk (hK_r44_0 _ _ ?_)
            refine tsst hk rfl rfl (fun K_r44_4 hK_r44_4 w hF => ?_) wt_stop
            have hs := hs.f hF
            rcases ite_some H with ⟨c54, H⟩ | ⟨_, H⟩
            rotate_left
            · cases H
            refine sap 7 (xs := ([] : List S_Entry)) (ys := (l0.take y4.toNat)) (flat_flat : (L_Entry).Flat) hs rfl o53 v46 (hs.hasD (k := 1) rfl) rfl hk rfl rfl rfl rfl lh47.symm rfl un26 mk62 rfl rfl rfl c54 fun A55 p56 k57 w a hk o58 hs => ?_
            refine se (hs.pick [(2, 2)] rfl) hk (hK_r44_4 _ _ ?_)
            refine tsst hk rfl rfl (fun K_r44_9 hK_r44_9 w hF => ?_) wt_stop
            have hs := hs.f hF
            rcases ite_some H with ⟨c59, H⟩ | ⟨_, H⟩
            rotate_left
            · cases H
            refine sap 7 (xs := (([] : List S_Entry) ++ (l0.take y4.toNat))) (ys := (l0.drop (w64 (y4 + 1)).toNat)) (flat_flat : (L_Entry).Flat) hs rfl o58 v49 (hs.hasD (k := 1) rfl) rfl hk rfl rfl rfl rfl lh50.symm rfl un26 mk62 rfl rfl rfl c59 fun A60 p61 k62 w a hk o63 hs => ?_
            refine se (hs.pick [(2, 2)] rfl) hk (hK_r44_9 _ _ ?_)
            refine tlst hk rfl rfl fun K_r44_10 hK_r44_10 w hF => ?_
            have hs := hs.f hF
            refine sa _ rfl hk rfl rfl rfl fun a hk => ?_
            refine se trivial hk (hK_r44_10 _ _ fun w hF => ?_)
            have hs := hs.f hF
            obtain rfl := Option.some.inj H
            show R42 _ _
            rw [hR42]
            exact ⟨((([] : List S_Entry) ++ (l0.take y4.toNat)) ++ (l0.drop (w64 (y4 + 1)).toNat)), A60, p61, _, rfl, (hk.c 0 rfl (hk.c 7 rfl hk.k)), (hs.pick [(5, 7)] rfl), (o63.view).sub (Sub.r _ (Sub.refl _))⟩
          · have hk := hk.lit 35 c43 rfl
            refine cnd_false hk rfl rfl ?_
            refine wp_skip ?_
            obtain rfl := Option.some.inj H
            show R42 _ _
            rw [hR42]
            exact ⟨l0, A0_, p0_, _, rfl, (hk.c 0 rfl (hk.c 7 rfl hk.k)), ((hs.addNil 3005).pick [(5, 3005)] rfl), (v0_).sub (Sub.l _ (Sub.refl _))⟩
        · intro a w hR0
          rw [hR42] at hR0
          obtain ⟨u35, A36, p37, kf34, rfl, hk, hs, v38⟩ := hR0
          have H := HL41
          try dsimp only at H
          refine hK32 _ _ ?_
          apply wp_seq_k; intro K64 hK64
          apply wp_region_lit
          refine sm _ rfl hk rfl rfl rfl fun a hk => ?_
          refine sm _ rfl hk rfl rfl rfl fun a hk => ?_
          refine sv (.bool (decide (y4 ≥ 0))) hk rfl rfl rfl fun a hk => ?_
          obtain ⟨y65, h66, H⟩ := bind_some H
          refine sc rfl en126 hk rfl rfl rfl (spec_l01Bit_t _ (decide (y4 ≥ 0)) _ h66) ?_
          rintro _ w ⟨rfl, hG⟩ a hk
          have hs := hs.call0 hG
          refine sbs (L := (Lay.int .i64)) (pv := [(0, (.int .i64 y65))]) (xs := [y65]) (ess := [[.int .i64 y65]]) 8 hs rfl hk rfl rfl rfl un27 (bs3_3 y65) (AllOwn.cons0 ⟨rfl, rfl⟩ AllOwn.nil) rfl rfl rfl fun b67 k68 w a hk o69 hs => ?_
          refine sa _ rfl hk rfl rfl rfl fun a hk => ?_
          refine sa _ rfl hk rfl rfl rfl fun a hk => ?_
          refine sa _ rfl hk rfl rfl rfl fun a hk => ?_
          show wpList _ _ _ [] _ _
          refine wpList_nil ?_
          refine hK64 _ _ ?_
          refine wp_ret ?_
          obtain rfl := Option.some.inj H
          exact fin hk _ [(.slice A36 u35.length p37), (.slice (some ⟨b67, 0, none⟩) 1 1), (.int .i64 0)] rfl ⟨rfl, ⟨rfl, ⟨rfl, trivial⟩⟩⟩ ⟨A36, p37, (some ⟨b67, 0, none⟩), 1, _, _, rfl, (v38).sub (Sub.refl _), o69, (hs.pick [(0, 8), (1, 5)] rfl).dnil⟩
      · have hk := hk.lit 32 c31 rfl
        refine cnd_false hk rfl rfl ?_
        apply wp_seq_k; intro K70 hK70
        apply wp_region_lit
        refine sv (.bool (x1.Kind == 4)) hk rfl rfl rfl fun a hk => ?_
        refine sa _ rfl hk rfl rfl rfl fun a hk => ?_
        show wpList _ _ _ [] _ _
        refine wpList_nil ?_
        refine hK70 _ _ ?_
        rcases cond_some H with ⟨c71, H⟩ | ⟨c71, H⟩
        · have hk := hk.lit 51 c71 rfl
          refine cnd_true hk rfl rfl ?_
          apply wp_seq_k; intro K72 hK72
          apply wp_seq_k; intro K73 hK73
          obtain ⟨o76, h77, HL78⟩ := bind_some H
          clear H
          obtain ⟨R79, hR79⟩ : ∃ R : Act → World → Prop, R = fun a w => ∃ (u75 : Bool), u75 = o76 ∧ Kn [(0, (.slice A0_ l0.length p0_)), (60, (.bool u75))] 153 a ∧ Sat [] w0 w [(1, k0_)] [] := ⟨_, rfl⟩
          refine wp_cutq R79 ?_ ?_
          · have H := h77
            apply wp_region_lit
            refine sm _ rfl hk rfl rfl rfl fun a hk => ?_
            refine sv (.bool (decide (y4 < 0))) hk rfl rfl rfl fun a hk => ?_
            refine sm _ rfl hk rfl rfl rfl fun a hk => ?_
            rcases cond_some H with ⟨c80, H⟩ | ⟨c80, H⟩
            · have hk := hk.lit 55 c80 rfl
              refine sk hk rfl rfl rfl fun a hk => ?_
              refine sk hk rfl rfl rfl fun a hk => ?_
              refine sk hk rfl rfl rfl fun a hk => ?_
              refine sk hk rfl rfl rfl fun a hk => ?_
              refine sv (.bool true) hk rfl rfl rfl fun a hk => ?_
              show wpList _ _ _ [] _ _
              refine wpList_nil ?_
              obtain rfl := Option.some.inj H
              show R79 _ _
              rw [hR79]
              exact ⟨true, rfl, (hk.c 0 rfl (hk.c 60 rfl hk.k)), (hs.pick [] rfl)⟩
            · have hk := hk.lit 55 c80 rfl
              refine sm _ rfl hk rfl rfl rfl fun a hk => ?_
              refine sf ⟨b2, 2, none⟩ rfl hk rfl rfl rfl fd31_2 rfl fun a hk => ?_
              refine sl rfl hk rfl rfl rfl ag3 (box_cell hs (k := 2) rfl rfl) fun a hk => ?_
              refine sv (.bool (u10 != x1.Value)) hk rfl rfl rfl fun a hk => ?_
              refine sv (.bool (u10 != x1.Value)) hk rfl rfl rfl fun a hk => ?_
              show wpList _ _ _ [] _ _
              refine wpList_nil ?_
              obtain rfl := Option.some.inj H
              show R79 _ _
              rw [hR79]
              exact ⟨(u10 != x1.Value), rfl, (hk.c 0 rfl (hk.c 60 rfl hk.k)), (hs.pick [] rfl)⟩
          · intro a w hR0
            rw [hR79] at hR0
            obtain ⟨u75, rfl, hk, hs⟩ := hR0
            have H := HL78
            try dsimp only at H
            refine hK73 _ _ ?_
            rcases cond_some H with ⟨c81, H⟩ | ⟨c81, H⟩
            · have hk := hk.lit 60 c81 rfl
              refine cnd_true hk rfl rfl ?_
              apply wp_seq_k; intro K82 hK82
              apply wp_region_lit
              refine sm _ rfl hk rfl rfl rfl fun a hk => ?_
              refine sbs0 10 (Lay.int .i64) hs rfl hk rfl rfl un27 sz3 fun b83 k84 w a hk o85 hs => ?_
              refine sa _ rfl hk rfl rfl rfl fun a hk => ?_
              refine sa _ rfl hk rfl rfl rfl fun a hk => ?_
              refine sa _ rfl hk rfl rfl rfl fun a hk => ?_
              show wpList _ _ _ [] _ _
              refine wpList_nil ?_
              refine hK82 _ _ ?_
              refine wp_ret ?_
              obtain rfl := Option.some.inj H
              exact fin hk _ [(.slice A0_ l0.length p0_), (.slice (some ⟨b83, 0, none⟩) 0 0), (.int .i64 14)] rfl ⟨rfl, ⟨rfl, ⟨rfl, trivial⟩⟩⟩ ⟨A0_, p0_, (some ⟨b83, 0, none⟩), 0, _, _, rfl, (v0_).sub (Sub.l _ (Sub.refl _)), o85, ((hs.addNil 3000).pick [(0, 10), (1, 3000)] rfl).dnil⟩
            · have hk := hk.lit 60 c81 rfl
              refine cnd_false hk rfl rfl ?_
              refine wp_skip ?_
              refine hK72 _ _ ?_
              apply wp_seq_k; intro K86 hK86
              apply wp_region_lit
              refine sm _ rfl hk rfl rfl rfl fun a hk => ?_
              refine sbs0 11 (Lay.int .i64) hs rfl hk rfl rfl un27 sz3 fun b87 k88 w a hk o89 hs => ?_
              refine sa _ rfl hk rfl rfl rfl fun a hk => ?_
              refine sa _ rfl hk rfl rfl rfl fun a hk => ?_
              refine sa _ rfl hk rfl rfl rfl fun a hk => ?_
              show wpList _ _ _ [] _ _
              refine wpList_nil ?_
              refine hK86 _ _ ?_
              refine wp_ret ?_
              obtain rfl := Option.some.inj H
              exact fin hk _ [(.slice A0_ l0.length p0_), (.slice (some ⟨b87, 0, none⟩) 0 0), (.int .i64 0)] rfl ⟨rfl, ⟨rfl, ⟨rfl, trivial⟩⟩⟩ ⟨A0_, p0_, (some ⟨b87, 0, none⟩), 0, _, _, rfl, (v0_).sub (Sub.l _ (Sub.refl _)), o89, ((hs.addNil 3000).pick [(0, 11), (1, 3000)] rfl).dnil⟩
        · have hk := hk.lit 51 c71 rfl
          refine cnd_false hk rfl rfl ?_
          apply wp_seq_k; intro K90 hK90
          apply wp_region_lit
          refine sv (.bool (x1.Kind == 6)) hk rfl rfl rfl fun a hk => ?_
          refine sa _ rfl hk rfl rfl rfl fun a hk => ?_
          show wpList _ _ _ [] _ _
          refine wpList_nil ?_
          refine hK90 _ _ ?_
          rcases cond_some H with ⟨c91, H⟩ | ⟨c91, H⟩
          · have hk := hk.lit 65 c91 rfl
            refine cnd_true hk rfl rfl ?_
            apply wp_seq_k; intro K92 hK92
            apply wp_region_lit
            refine sbs0 12 (Lay.int .i64) hs rfl hk rfl rfl un27 sz3 fun b93 k94 w a hk o95 hs => ?_
            refine sa _ rfl hk rfl rfl rfl fun a hk => ?_
            show wpList _ _ _ [] _ _
            refine wpList_nil ?_
            refine hK92 _ _ ?_
            apply wp_seq_k; intro K96 hK96
            apply wp_seq_k; intro K97 hK97
            apply wp_region_lit
            refine sa _ rfl hk rfl rfl rfl fun a hk => ?_
            show wpList _ _ _ [] _ _
            refine wpList_nil ?_
            refine hK97 _ _ ?_
            obtain ⟨o115, h116, HL117⟩ := bind_some H
            clear H
            obtain ⟨R118, hR118⟩ : ∃ R : Act → World → Prop, R = fun a w => ∃ (u110 : List Int) (A113 : Option Addr) (p114 : Nat) (k111 : Chunk), o115 = .out u110 ∧ Kn [(0, (.slice A0_ l0.length p0_)), (3, (.pointer (some ⟨b2, 0, none⟩))), (9, (.slice A113 u110.length p114))] 153 a ∧ Sat [] w0 w [(1, k0_)] [(12, k111), (2, [(b2, .cells #[.int .i64 x1.Kind, .int .i64 x1.Key, .int .i64 x1.Value] 31 (0, 0))])] ∧ Own (Lay.int .i64) 3 A113 p114 u110 k111 := ⟨_, rfl⟩
            refine wp_cutq R118 ?_ ?_
            · refine wp_block ?_
              obtain ⟨fu120, h116⟩ := loopO_some h116
              obtain ⟨I119, hI119⟩ : ∃ I : Nat → Act → World → Prop, I = fun fu a w => ∃ (u105 : List Int) (u104 : Int) (A108 : Option Addr) (p109 : Nat) (k106 : Chunk), loopN (fun s => spec_l10Do.s0 l0 x1 s.1 s.2) fu (u105, u104) = some o115 ∧ Kn [(0, (.slice A0_ l0.length p0_)), (3, (.pointer (some ⟨b2, 0, none⟩))), (9, (.slice A108 u105.length p109)), (10, (.int .i64 u104))] 153 a ∧ Sat [] w0 w [(1, k0_)] [(12, k106), (2, [(b2, .cells #[.int .i64 x1.Kind, .int .i64 x1.Key, .int .i64 x1.Value] 31 (0, 0))])] ∧ Own (Lay.int .i64) 3 A108 p109 u105 k106 := ⟨_, rfl⟩
              refine wp_loop_ghost I119 fu120 ?_ ?_
              · rw [hI119]
                exact ⟨([] : List Int), 0, (some ⟨b93, 0, none⟩), 0, _, h116, (hk.c 0 rfl (hk.c 3 rfl (hk.c 9 rfl (hk.c 10 rfl hk.k)))), (hs.pick [(12, 12), (2, 2)] rfl), o95⟩
              · clear h116 hk hs
                intro fu120 a w hI0
                rw [hI119] at hI0
                obtain ⟨u105, u104, A108, p109, k106, hi, hk, hs, o107⟩ := hI0
                obtain ⟨x121, H, h122⟩ := loop_round hi
                try dsimp only at H
                unfold spec_l10Do.s0 at H
                apply wp_seq_k; intro K123 hK123
                apply wp_seq_k; intro K124 hK124
                obtain ⟨o127, h128, HL129⟩ := bind_some H
                clear H
                obtain ⟨R130, hR130⟩ : ∃ R : Act → World → Prop, R = fun a w => ∃ (u126 : Bool), u126 = o127 ∧ Kn [(0, (.slice A0_ l0.length p0_)), (3, (.pointer (some ⟨b2, 0, none⟩))), (9, (.slice A108 u105.length p109)), (10, (.int .i64 u104)), (79, (.bool u126))] 153 a ∧ Sat [] w0 w [(1, k0_)] [(12, k106), (2, [(b2, .cells #[.int .i64 x1.Kind, .int .i64 x1.Key, .int .i64 x1.Value] 31 (0, 0))])] := ⟨_, rfl⟩
                refine wp_cutq R130 ?_ ?_
                · have H := h128
                  apply wp_region_lit
                  refine sm _ rfl hk rfl rfl rfl fun a hk => ?_
                  refine sm _ rfl hk rfl rfl rfl fun a hk => ?_
                  refine sle rfl hk rfl rfl rfl un26 fun a hk => ?_
                  refine sv (.bool (decide (u104 < (l0.length : Int)))) hk rfl rfl rfl fun a hk => ?_
                  refine sm _ rfl hk rfl rfl rfl fun a hk => ?_
                  rcases cond_some H with ⟨c131, H⟩ | ⟨c131, H⟩
                  · have hk := hk.lit 72 c131 rfl
                    refine sm _ rfl hk rfl rfl rfl fun a hk => ?_
                    refine sle rfl hk rfl rfl rfl un27 fun a hk => ?_
                    refine sf ⟨b2, 2, none⟩ rfl hk rfl rfl rfl fd31_2 rfl fun a hk => ?_
                    refine sl rfl hk rfl rfl rfl ag3 (box_cell hs (k := 2) rfl rfl) fun a hk => ?_
                    refine sv (.int .i64 (w64 (2 * x1.Value))) hk rfl rfl rfl fun a hk => ?_
                    refine sv (.bool (decide ((u105.length : Int) < (w64 (2 * x1.Value))))) hk rfl rfl rfl fun a hk => ?_
                    refine sv (.bool (decide ((u105.length : Int) < (w64 (2 * x1.Value))))) hk rfl rfl rfl fun a hk => ?_
                    show wpList _ _ _ [] _ _
                    refine wpList_nil ?_
                    obtain rfl := Option.some.inj H
                    show R130 _ _
                    rw [hR130]
                    exact ⟨(decide ((u105.length : Int) < (w64 (2 * x1.Value)))), rfl, (hk.c 0 rfl (hk.c 3 rfl (hk.c 9 rfl (hk.c 10 rfl (hk.c 79 rfl hk.k))))), (hs.pick [(12, 12), (2, 2)] rfl)⟩
                  · have hk := hk.lit 72 c131 rfl
                    refine sk hk rfl rfl rfl fun a hk => ?_
                    refine sk hk rfl rfl rfl fun a hk => ?_
                    refine sk hk rfl rfl rfl fun a hk => ?_
                    refine sk hk rfl rfl rfl fun a hk => ?_
                    refine sk hk rfl rfl rfl fun a hk => ?_
                    refine sk hk rfl rfl rfl fun a hk => ?_
                    refine sv (.bool false) hk rfl rfl rfl fun a hk => ?_
                    show wpList _ _ _ [] _ _
                    refine wpList_nil ?_
                    obtain rfl := Option.some.inj H
                    show R130 _ _
                    rw [hR130]
                    exact ⟨false, rfl, (hk.c 0 rfl (hk.c 3 rfl (hk.c 9 rfl (hk.c 10 rfl (hk.c 79 rfl hk.k))))), (hs.pick [(12, 12), (2, 2)] rfl)⟩
                · intro a w hR0
                  rw [hR130] at hR0
                  obtain ⟨u126, rfl, hk, hs⟩ := hR0
                  have H := HL129
                  try dsimp only at H
                  refine hK124 _ _ ?_
                  rcases cond_some H with ⟨c132, H⟩ | ⟨c132, H⟩
                  · have hk := hk.lit 79 c132 rfl
                    refine cnd_true hk rfl rfl ?_
                    refine wp_skip ?_
                    refine hK123 _ _ ?_
                    apply wp_seq_k; intro K133 hK133
                    refine wp_block ?_
                    apply wp_seq_k; intro K134 hK134
                    refine wp_region_tree (.q 0 (.q 1 (.q 2 (.q 3 (.q 4 (.alt 5 (.alt 6 (.alt 7 .done .stop) .stop) .stop)))))) mo (by kernel_rfl) (hs.pick [(12, 12), (2, 2)] rfl) fun _ => ?_
                    have hs := hs.drew
                    refine tqst (.slice A0_ l0.length p0_) hk rfl rfl rfl rfl (fun w hs => sm _ rfl hk rfl rfl rfl fun a hk => qe hk) fun a hk => ?_
                    refine tqst (.int .i64 u104) hk rfl rfl rfl rfl (fun w hs => sm _ rfl hk rfl rfl rfl fun a hk => qe hk) fun a hk => ?_
                    rcases ite_some H with ⟨c136, H⟩ | ⟨_, H⟩
                    rotate_left
                    · cases H
                    obtain ⟨b137, q138, hAc136⟩ := (v0_).some_ u104 c136.1 c136.2
                    refine tqst (.pointer (some (padd A0_ (u104.toNat * 2)))) hk rfl rfl rfl rfl (fun w hs => si rfl hk rfl rfl rfl rfl un26 sz62 c136.1 c136.2 hAc136 fun a hk => qe hk) fun a hk => ?_
                    refine tqst (.pointer (some (padd A0_ (u104.toNat * 2)))) hk rfl rfl rfl rfl (fun w hs => sf (padd A0_ (u104.toNat * 2 + 0)) rfl hk rfl rfl rfl fd62_0 (padd_add _ _ _) fun a hk => qe hk) fun a hk => ?_
                    obtain ⟨_, rfl, e139⟩ := (v0_).at_ z_Entry u104 c136.1 c136.2
                    refine tqst (.int .i64 ((l0.getD u104.toNat z_Entry).Key)) hk rfl rfl rfl rfl (fun w hs => sl (v := (.int .i64 ((l0.getD u104.toNat z_Entry).Key))) rfl hk rfl rfl rfl ag3 ((e139 0 _ rfl).cell (hs.hasD (k := 1) rfl)) fun a hk => qe hk) fun a hk => ?_
                    refine tsst hk rfl rfl (fun K_r135_5 hK_r135_5 w hF => ?_) wt_stop
                    have hs := hs.f hF
                    refine sf ⟨b2, 1, none⟩ rfl hk rfl rfl rfl fd31_1 rfl fun a hk => ?_
                    refine se (hs.pick [(12, 12), (2, 2)] rfl) hk (hK_r135_5 _ _ ?_)
                    refine tsst hk rfl rfl (fun K_r135_6 hK_r135_6 w hF => ?_) wt_stop
                    have hs := hs.f hF
                    refine sl rfl hk rfl rfl rfl ag3 (box_cell hs (k := 2) rfl rfl) fun a hk => ?_
                    refine se (hs.pick [(12, 12), (2, 2)] rfl) hk (hK_r135_6 _ _ ?_)
                    refine tsst hk rfl rfl (fun K_r135_7 hK_r135_7 w hF => ?_) wt_stop
                    have hs := hs.f hF
                    refine sv (.bool (decide (((l0.getD u104.toNat z_Entry).Key) ≥ x1.Key))) hk rfl rfl rfl fun a hk => ?_
                    refine se (hs.pick [(12, 12), (2, 2)] rfl) hk (hK_r135_7 _ _ ?_)
                    refine wtl_nil fun w hF _ => ?_
                    have hs := hs.f hF
                    refine hK134 _ _ ?_
                    obtain ⟨o146, h147, HL148⟩ := bind_some H
                    clear H
                    obtain ⟨R149, hR149⟩ : ∃ R : Act → World → Prop, R = fun a w => ∃ (u141 : List Int) (A144 : Option Addr) (p145 : Nat) (k142 : Chunk), u141 = o146 ∧ Kn [(0, (.slice A0_ l0.length p0_)), (3, (.pointer (some ⟨b2, 0, none⟩))), (9, (.slice A144 u141.length p145)), (10, (.int .i64 u104))] 153 a ∧ Sat [] w0 w [(1, k0_)] [(12, k142), (2, [(b2, .cells #[.int .i64 x1.Kind, .int .i64 x1.Key, .int .i64 x1.Value] 31 (0, 0))])] ∧ Own (Lay.int .i64) 3 A144 p145 u141 k142 := ⟨_, rfl⟩
                    refine wp_cutq R149 ?_ ?_
                    · have H := h147
                      rcases cond_some H with ⟨c150, H⟩ | ⟨c150, H⟩
                      · have hk := hk.lit 89 c150 rfl
                        refine cnd_true hk rfl rfl ?_
                        refine wp_region_tree (.q 0 (.q 1 (.q 2 (.q 3 (.q 4 (.q 5 (.q 6 (.alt 7 (.alt 8 (.alt 9 (.alt 10 (.alt 11 (.alt 12 (.last 13) .stop) .stop) .stop) .stop) .stop) .stop)))))))) mo (by kernel_rfl) (hs.pick [(2, 2)] rfl) fun _ => ?_
                        have hs := hs.drew
                        refine tqst (.slice A108 u105.length p109) hk rfl rfl rfl rfl (fun w hs => sm _ rfl hk rfl rfl rfl fun a hk => qe hk) fun a hk => ?_
                        refine tqst (.slice A0_ l0.length p0_) hk rfl rfl rfl rfl (fun w hs => sm _ rfl hk rfl rfl rfl fun a hk => qe hk) fun a hk => ?_
                        refine tqst (.int .i64 u104) hk rfl rfl rfl rfl (fun w hs => sm _ rfl hk rfl rfl rfl fun a hk => qe hk) fun a hk => ?_
                        rcases ite_some H with ⟨c152, H⟩ | ⟨_, H⟩
                        rotate_left
                        · cases H
                        obtain ⟨b153, q154, hAc152⟩ := (v0_).some_ u104 c152.1 c152.2
                        refine tqst (.pointer (some (padd A0_ (u104.toNat * 2)))) hk rfl rfl rfl rfl (fun w hs => si rfl hk rfl rfl rfl rfl un26 sz62 c152.1 c152.2 hAc152 fun a hk => qe hk) fun a hk => ?_
                        refine tqst (.pointer (some (padd A0_ (u104.toNat * 2)))) hk rfl rfl rfl rfl (fun w hs => sf (padd A0_ (u104.toNat * 2 + 0)) rfl hk rfl rfl rfl fd62_0 (padd_add _ _ _) fun a hk => qe hk) fun a hk => ?_
                        obtain ⟨_, rfl, e155⟩ := (v0_).at_ z_Entry u104 c152.1 c152.2
                        refine tqst (.int .i64 ((l0.getD u104.toNat z_Entry).Key)) hk rfl rfl rfl rfl (fun w hs => sl (v := (.int .i64 ((l0.getD u104.toNat z_Entry).Key))) rfl hk rfl rfl rfl ag3 ((e155 0 _ rfl).cell (hs.hasD (k := 1) rfl)) fun a hk => qe hk) fun a hk => ?_
                        refine tqst (.slice A0_ l0.length p0_) hk rfl rfl rfl rfl (fun w hs => sm _ rfl hk rfl rfl rfl fun a hk => qe hk) fun a hk => ?_
                        refine tsst hk rfl rfl (fun K_r151_7 hK_r151_7 w hF => ?_) wt_stop
                        have hs := hs.f hF
                        refine sm _ rfl hk rfl rfl rfl fun a hk => ?_
                        refine se (hs.pick [(2, 2)] rfl) hk (hK_r151_7 _ _ ?_)
                        refine tsst hk rfl rfl (fun K_r151_8 hK_r151_8 w hF => ?_) wt_stop
                        have hs := hs.f hF
                        rcases ite_some H with ⟨c156, H⟩ | ⟨_, H⟩
                        rotate_left
                        · cases H
                        obtain ⟨b157, q158, hAc156⟩ := (v0_).some_ u104 c156.1 c156.2
                        refine si rfl hk rfl rfl rfl rfl un26 sz62 c156.1 c156.2 hAc156 fun a hk => ?_
                        refine se (hs.pick [(2, 2)] rfl) hk (hK_r151_8 _ _ ?_)
                        refine tsst hk rfl rfl (fun K_r151_9 hK_r151_9 w hF => ?_) wt_stop
                        have hs := hs.f hF
                        refine sf (padd A0_ (u104.toNat * 2 + 1)) rfl hk rfl rfl rfl fd62_1 (padd_add _ _ _) fun a hk => ?_
                        refine se (hs.pick [(2, 2)] rfl) hk (hK_r151_9 _ _ ?_)
                        refine tsst hk rfl rfl (fun K_r151_10 hK_r151_10 w hF => ?_) wt_stop
                        have hs := hs.f hF
                        obtain ⟨_, rfl, e159⟩ := (v0_).at_ z_Entry u104 c156.1 c156.2
                        refine sl (v := (.int .i64 ((l0.getD u104.toNat z_Entry).Value))) rfl hk rfl rfl rfl ag3 ((e159 1 _ rfl).cell (hs.hasD (k := 1) rfl)) fun a hk => ?_
                        refine se (hs.pick [(2, 2)] rfl) hk (hK_r151_10 _ _ ?_)
                        refine tsst hk rfl rfl (fun K_r151_11 hK_r151_11 w hF => ?_) wt_stop
                        have hs := hs.f hF
                        refine sbs (L := (Lay.int .i64)) (pv := [(0, (.int .i64 ((l0.getD u104.toNat z_Entry).Key))), (1, (.int .i64 ((l0.getD u104.toNat z_Entry).Value)))]) (xs := [(l0.getD u104.toNat z_Entry).Key, (l0.getD u104.toNat z_Entry).Value]) (ess := [[.int .i64 ((l0.getD u104.toNat z_Entry).Key)], [.int .i64 ((l0.getD u104.toNat z_Entry).Value)]]) 18 hs rfl hk rfl rfl rfl un27 (bs3_2 ((l0.getD u104.toNat z_Entry).Key) ((l0.getD u104.toNat z_Entry).Value)) (AllOwn.cons0 ⟨rfl, rfl⟩ (AllOwn.cons0 ⟨rfl, rfl⟩ AllOwn.nil)) rfl rfl rfl fun b160 k161 w a hk o162 hs => ?_
                        refine se (hs.pick [(2, 2)] rfl) hk (hK_r151_11 _ _ ?_)
                        refine tsst hk rfl rfl (fun K_r151_12 hK_r151_12 w hF => ?_) wt_stop
                        have hs := hs.f hF
                        rcases ite_some H with ⟨c163, H⟩ | ⟨_, H⟩
                        rotate_left
                        · cases H
                        refine sap 12 (xs := u105) (ys := [(l0.getD u104.toNat z_Entry).Key, (l0.getD u104.toNat z_Entry).Value]) (flat_flat : ((Lay.int .i64)).Flat) hs rfl o107 o162.view (hs.hasG (k := 18) rfl) rfl hk rfl rfl rfl rfl rfl rfl un27 mk3 rfl rfl rfl c163 fun A164 p165 k166 w a hk o167 hs => ?_
                        refine se (hs.pick [(2, 2)] rfl) hk (hK_r151_12 _ _ ?_)
                        refine tlst hk rfl rfl fun K_r151_13 hK_r151_13 w hF => ?_
                        have hs := hs.f hF
                        refine sa _ rfl hk rfl rfl rfl fun a hk => ?_
                        refine se trivial hk (hK_r151_13 _ _ fun w hF => ?_)
                        have hs := hs.f hF
                        obtain rfl := Option.some.inj H
                        show R149 _ _
                        rw [hR149]
                        exact ⟨(u105 ++ ([(l0.getD u104.toNat z_Entry).Key, (l0.getD u104.toNat z_Entry).Value])), A164, p165, _, rfl, (hk.c 0 rfl (hk.c 3 rfl (hk.c 9 rfl (hk.c 10 rfl hk.k)))), (hs.pick [(12, 12), (2, 2)] rfl), o167⟩
                      · have hk := hk.lit 89 c150 rfl
                        refine cnd_false hk rfl rfl ?_
                        refine wp_skip ?_
                        obtain rfl := Option.some.inj H
                        show R149 _ _
                        rw [hR149]
                        exact ⟨u105, A108, p109, _, rfl, (hk.c 0 rfl (hk.c 3 rfl (hk.c 9 rfl (hk.c 10 rfl hk.k)))), (hs.pick [(12, 12), (2, 2)] rfl), o107⟩
                    · intro a w hR0
                      rw [hR149] at hR0
                      obtain ⟨u141, A144, p145, k142, rfl, hk, hs, o143⟩ := hR0
                      have H := HL148
                      try dsimp only at H
                      refine hK133 _ _ ?_
                      apply wp_region_lit
                      refine sm _ rfl hk rfl rfl rfl fun a hk => ?_
                      refine sv (.int .i64 (w64 (u104 + 1))) hk rfl rfl rfl fun a hk => ?_
                      refine sa _ rfl hk rfl rfl rfl fun a hk => ?_
                      show wpList _ _ _ [] _ _
                      refine wpList_nil ?_
                      obtain rfl := Option.some.inj H
                      obtain ⟨m168, hmm168, h122⟩ := h122
                      show ∃ n', n' < _ ∧ I119 n' _ _
                      refine ⟨m168, hmm168, ?_⟩
                      rw [hI119]
                      exact ⟨u141, (w64 (u104 + 1)), A144, p145, _, h122, (hk.c 0 rfl (hk.c 3 rfl (hk.c 9 rfl (hk.c 10 rfl hk.k)))), (hs.pick [(12, 12), (2, 2)] rfl), o143⟩
                  · have hk := hk.lit 79 c132 rfl
                    refine cnd_false hk rfl rfl ?_
                    refine wp_exit ?_
                    obtain rfl := Option.some.inj H
                    show R118 _ _
                    rw [hR118]
                    exact ⟨u105, A108, p109, _, h122.symm, (hk.c 0 rfl (hk.c 3 rfl (hk.c 9 rfl hk.k))), (hs.pick [(12, 12), (2, 2)] rfl), o107⟩
            · intro a w hR0
              rw [hR118] at hR0
              obtain ⟨u110, A113, p114, k111, rfl, hk, hs, o112⟩ := hR0
              have H := HL117
              try dsimp only at H
              refine hK96 _ _ ?_
              apply wp_seq_k; intro K169 hK169
              obtain ⟨o186, h187, HL188⟩ := bind_some H
              clear H
              obtain ⟨R189, hR189⟩ : ∃ R : Act → World → Prop, R = fun a w => ∃ (u181 : List Int) (A184 : Option Addr) (p185 : Nat) (k182 : Chunk), o186 = .out u181 ∧ Kn [(0, (.slice A0_ l0.length p0_)), (9, (.slice A184 u181.length p185))] 153 a ∧ Sat [] w0 w [(1, k0_)] [(12, k182)] ∧ Own (Lay.int .i64) 3 A184 p185 u181 k182 := ⟨_, rfl⟩
              refine wp_cutq R189 ?_ ?_
              · refine wp_block ?_
                obtain ⟨fu191, h187⟩ := loopO_some h187
                obtain ⟨I190, hI190⟩ : ∃ I : Nat → Act → World → Prop, I = fun fu a w => ∃ (u176 : List Int) (A179 : Option Addr) (p180 : Nat) (k177 : Chunk), loopN (fun s => spec_l10Do.s1 x1 s) fu u176 = some o186 ∧ Kn [(0, (.slice A0_ l0.length p0_)), (3, (.pointer (some ⟨b2, 0, none⟩))), (9, (.slice A179 u176.length p180))] 153 a ∧ Sat [] w0 w [(1, k0_)] [(12, k177), (2, [(b2, .cells #[.int .i64 x1.Kind, .int .i64 x1.Key, .int .i64 x1.Value] 31 (0, 0))])] ∧ Own (Lay.int .i64) 3 A179 p180 u176 k177 := ⟨_, rfl⟩
                refine wp_loop_ghost I190 fu191 ?_ ?_
                · rw [hI190]
                  exact ⟨u110, A113, p114, _, h187, (hk.c 0 rfl (hk.c 3 rfl (hk.c 9 rfl hk.k))), (hs.pick [(12, 12), (2, 2)] rfl), o112⟩
                · clear h187 hk hs
                  intro fu191 a w hI0
                  rw [hI190] at hI0
                  obtain ⟨u176, A179, p180, k177, hi, hk, hs, o178⟩ := hI0
                  obtain ⟨x192, H, h193⟩ := loop_round hi
                  try dsimp only at H
                  unfold spec_l10Do.s1 at H
                  apply wp_seq_k; intro K194 hK194
                  apply wp_seq_k; intro K195 hK195
                  apply wp_region_lit
                  refine sm _ rfl hk rfl rfl rfl fun a hk => ?_
                  refine sle rfl hk rfl rfl rfl un27 fun a hk => ?_
                  refine sf ⟨b2, 2, none⟩ rfl hk rfl rfl rfl fd31_2 rfl fun a hk => ?_
                  refine sl rfl hk rfl rfl rfl ag3 (box_cell hs (k := 2) rfl rfl) fun a hk => ?_
                  refine sv (.int .i64 (w64 (2 * x1.Value))) hk rfl rfl rfl fun a hk => ?_
                  refine sv (.bool (decide ((u176.length : Int) < (w64 (2 * x1.Value))))) hk rfl rfl rfl fun a hk => ?_
                  show wpList _ _ _ [] _ _
                  refine wpList_nil ?_
                  refine hK195 _ _ ?_
                  rcases cond_some H with ⟨c196, H⟩ | ⟨c196, H⟩
                  · have hk := hk.lit 108 c196 rfl
                    refine cnd_true hk rfl rfl ?_
                    refine wp_skip ?_
                    refine hK194 _ _ ?_
                    refine wp_block ?_
                    apply wp_region_lit
                    refine sm _ rfl hk rfl rfl rfl fun a hk => ?_
                    refine sbs (L := (Lay.int .i64)) (pv := [(0, (.int .i64 0))]) (xs := [0]) (ess := [[.int .i64 0]]) 20 hs rfl hk rfl rfl rfl un27 (bs3_3 0) (AllOwn.cons0 ⟨rfl, rfl⟩ AllOwn.nil) rfl rfl rfl fun b197 k198 w a hk o199 hs => ?_
                    rcases ite_some H with ⟨c200, H⟩ | ⟨_, H⟩
                    rotate_left
                    · cases H
                    refine sap 12 (xs := u176) (ys := [0]) (flat_flat : ((Lay.int .i64)).Flat) hs rfl o178 o199.view (hs.hasG (k := 20) rfl) rfl hk rfl rfl rfl rfl rfl rfl un27 mk3 rfl rfl rfl c200 fun A201 p202 k203 w a hk o204 hs => ?_
                    refine sa _ rfl hk rfl rfl rfl fun a hk => ?_
                    show wpList _ _ _ [] _ _
                    refine wpList_nil ?_
                    obtain rfl := Option.some.inj H
                    obtain ⟨m205, hmm205, h193⟩ := h193
                    show ∃ n', n' < _ ∧ I190 n' _ _
                    refine ⟨m205, hmm205, ?_⟩
                    rw [hI190]
                    exact ⟨(u176 ++ ([0])), A201, p202, _, h193, (hk.c 0 rfl (hk.c 3 rfl (hk.c 9 rfl hk.k))), (hs.pick [(12, 12), (2, 2)] rfl), o204⟩
                  · have hk := hk.lit 108 c196 rfl
                    refine cnd_false hk rfl rfl ?_
                    refine wp_exit ?_
                    obtain rfl := Option.some.inj H
                    show R189 _ _
                    rw [hR189]
                    exact ⟨u176, A179, p180, _, h193.symm, (hk.c 0 rfl (hk.c 9 rfl hk.k)), (hs.pick [(12, 12)] rfl), o178⟩
              · intro a w hR0
                rw [hR189] at hR0
                obtain ⟨u181, A184, p185, k182, rfl, hk, hs, o183⟩ := hR0
                have H := HL188
                try dsimp only at H
                refine hK169 _ _ ?_
                apply wp_seq_k; intro K206 hK206
                apply wp_region_lit
                refine sm _ rfl hk rfl rfl rfl fun a hk => ?_
                refine sm _ rfl hk rfl rfl rfl fun a hk => ?_
                refine sa _ rfl hk rfl rfl rfl fun a hk => ?_
                refine sa _ rfl hk rfl rfl rfl fun a hk => ?_
                refine sa _ rfl hk rfl rfl rfl fun a hk => ?_
                show wpList _ _ _ [] _ _
                refine wpList_nil ?_
                refine hK206 _ _ ?_
                refine wp_ret ?_
                obtain rfl := Option.some.inj H
                exact fin hk _ [(.slice A0_ l0.length p0_), (.slice A184 u181.length p185), (.int .i64 0)] rfl ⟨rfl, ⟨rfl, ⟨rfl, trivial⟩⟩⟩ ⟨A0_, p0_, A184, p185, _, _, rfl, (v0_).sub (Sub.l _ (Sub.refl _)), o183, ((hs.addNil 3000).pick [(0, 12), (1, 3000)] rfl).dnil⟩
          · have hk := hk.lit 65 c91 rfl
            refine cnd_false hk rfl rfl ?_
            refine wp_skip ?_
            refine hK20 _ _ ?_
            apply wp_seq_k; intro K207 hK207
            apply wp_seq_k; intro K208 hK208
            obtain ⟨o211, h212, HL213⟩ := bind_some H
            clear H
            obtain ⟨R214, hR214⟩ : ∃ R : Act → World → Prop, R = fun a w => ∃ (u210 : Bool), u210 = o211 ∧ Kn [(0, (.slice A0_ l0.length p0_)), (3, (.pointer (some ⟨b2, 0, none⟩))), (8, (.int .i64 u10)), (120, (.bool u210))] 153 a ∧ Sat [] w0 w [(1, k0_)] [(2, [(b2, .cells #[.int .i64 x1.Kind, .int .i64 x1.Key, .int .i64 x1.Value] 31 (0, 0))])] := ⟨_, rfl⟩
            refine wp_cutq R214 ?_ ?_
            · have H := h212
              apply wp_region_lit
              refine sm _ rfl hk rfl rfl rfl fun a hk => ?_
              refine sv (.bool (decide (y4 < 0))) hk rfl rfl rfl fun a hk => ?_
              refine sm _ rfl hk rfl rfl rfl fun a hk => ?_
              rcases cond_some H with ⟨c215, H⟩ | ⟨c215, H⟩
              · have hk := hk.lit 116 c215 rfl
                refine sm _ rfl hk rfl rfl rfl fun a hk => ?_
                refine sle rfl hk rfl rfl rfl un26 fun a hk => ?_
                refine sv (.bool ((l0.length : Int) == 11)) hk rfl rfl rfl fun a hk => ?_
                refine sv (.bool ((l0.length : Int) == 11)) hk rfl rfl rfl fun a hk => ?_
                show wpList _ _ _ [] _ _
                refine wpList_nil ?_
                obtain rfl := Option.some.inj H
                show R214 _ _
                rw [hR214]
                exact ⟨((l0.length : Int) == 11), rfl, (hk.c 0 rfl (hk.c 3 rfl (hk.c 8 rfl (hk.c 120 rfl hk.k)))), (hs.pick [(2, 2)] rfl)⟩
              · have hk := hk.lit 116 c215 rfl
                refine sk hk rfl rfl rfl fun a hk => ?_
                refine sk hk rfl rfl rfl fun a hk => ?_
                refine sk hk rfl rfl rfl fun a hk => ?_
                refine sv (.bool false) hk rfl rfl rfl fun a hk => ?_
                show wpList _ _ _ [] _ _
                refine wpList_nil ?_
                obtain rfl := Option.some.inj H
                show R214 _ _
                rw [hR214]
                exact ⟨false, rfl, (hk.c 0 rfl (hk.c 3 rfl (hk.c 8 rfl (hk.c 120 rfl hk.k)))), (hs.pick [(2, 2)] rfl)⟩
            · intro a w hR0
              rw [hR214] at hR0
              obtain ⟨u210, rfl, hk, hs⟩ := hR0
              have H := HL213
              try dsimp only at H
              refine hK208 _ _ ?_
              rcases cond_some H with ⟨c216, H⟩ | ⟨c216, H⟩
              · have hk := hk.lit 120 c216 rfl
                refine cnd_true hk rfl rfl ?_
                apply wp_seq_k; intro K217 hK217
                apply wp_region_lit
                refine sm _ rfl hk rfl rfl rfl fun a hk => ?_
                refine sbs0 22 (Lay.int .i64) hs rfl hk rfl rfl un27 sz3 fun b218 k219 w a hk o220 hs => ?_
                refine sa _ rfl hk rfl rfl rfl fun a hk => ?_
                refine sa _ rfl hk rfl rfl rfl fun a hk => ?_
                refine sa _ rfl hk rfl rfl rfl fun a hk => ?_
                show wpList _ _ _ [] _ _
                refine wpList_nil ?_
                refine hK217 _ _ ?_
                refine wp_ret ?_
                obtain rfl := Option.some.inj H
                exact fin hk _ [(.slice A0_ l0.length p0_), (.slice (some ⟨b218, 0, none⟩) 0 0), (.int .i64 7)] rfl ⟨rfl, ⟨rfl, ⟨rfl, trivial⟩⟩⟩ ⟨A0_, p0_, (some ⟨b218, 0, none⟩), 0, _, _, rfl, (v0_).sub (Sub.l _ (Sub.refl _)), o220, ((hs.addNil 3000).pick [(0, 22), (1, 3000)] rfl).dnil⟩
              · have hk := hk.lit 120 c216 rfl
                refine cnd_false hk rfl rfl ?_
                refine wp_skip ?_
                refine hK207 _ _ ?_
                apply wp_seq_k; intro K221 hK221
                apply wp_seq_k; intro K222 hK222
                apply wp_region_lit
                refine sf ⟨b2, 0, none⟩ rfl hk rfl rfl rfl fd31_0 rfl fun a hk => ?_
                refine sl rfl hk rfl rfl rfl ag3 (box_cell hs (k := 2) rfl rfl) fun a hk => ?_
                refine sv (.bool (x1.Kind == 2)) hk rfl rfl rfl fun a hk => ?_
                show wpList _ _ _ [] _ _
                refine wpList_nil ?_
                refine hK222 _ _ ?_
                rcases cond_some H with ⟨c223, H⟩ | ⟨c223, H⟩
                · have hk := hk.lit 125 c223 rfl
                  refine cnd_true hk rfl rfl ?_
                  apply wp_seq_k; intro K224 hK224
                  apply wp_region_lit
                  refine sm _ rfl hk rfl rfl rfl fun a hk => ?_
                  refine sf ⟨b2, 1, none⟩ rfl hk rfl rfl rfl fd31_1 rfl fun a hk => ?_
                  refine sl rfl hk rfl rfl rfl ag3 (box_cell hs (k := 2) rfl rfl) fun a hk => ?_
                  refine sf ⟨b2, 2, none⟩ rfl hk rfl rfl rfl fd31_2 rfl fun a hk => ?_
                  refine sl rfl hk rfl rfl rfl ag3 (box_cell hs (k := 2) rfl rfl) fun a hk => ?_
                  obtain ⟨y225, h226, H⟩ := bind_some H
                  refine sc rfl en127 hk rfl rfl rfl (spec_l10Put_t _ A0_ p0_ l0 _ v0_ (hs.hasD (k := 1) rfl) x1.Key x1.Value _ h226) ?_
                  rintro _ w ⟨A227, p228, k229, rfl, o230, hG⟩ a hk
                  have hs := hs.call0k hG [23] rfl
                  refine sbs0 24 (Lay.int .i64) hs rfl hk rfl rfl un27 sz3 fun b231 k232 w a hk o233 hs => ?_
                  refine sa _ rfl hk rfl rfl rfl fun a hk => ?_
                  refine sa _ rfl hk rfl rfl rfl fun a hk => ?_
                  refine sa _ rfl hk rfl rfl rfl fun a hk => ?_
                  show wpList _ _ _ [] _ _
                  refine wpList_nil ?_
                  refine hK224 _ _ ?_
                  refine wp_ret ?_
                  obtain rfl := Option.some.inj H
                  exact fin hk _ [(.slice A227 y225.length p228), (.slice (some ⟨b231, 0, none⟩) 0 0), (.int .i64 0)] rfl ⟨rfl, ⟨rfl, ⟨rfl, trivial⟩⟩⟩ ⟨A227, p228, (some ⟨b231, 0, none⟩), 0, _, _, rfl, (o230.view).sub (Sub.r _ (Sub.refl _)), o233, (hs.pick [(0, 24), (1, 23)] rfl).dnil⟩
                · have hk := hk.lit 125 c223 rfl
                  refine cnd_false hk rfl rfl ?_
                  refine wp_skip ?_
                  refine hK221 _ _ ?_
                  apply wp_seq_k; intro K234 hK234
                  apply wp_seq_k; intro K235 hK235
                  apply wp_region_lit
                  refine sm _ rfl hk rfl rfl rfl fun a hk => ?_
                  refine sf ⟨b2, 2, none⟩ rfl hk rfl rfl rfl fd31_2 rfl fun a hk => ?_
                  refine sl rfl hk rfl rfl rfl ag3 (box_cell hs (k := 2) rfl rfl) fun a hk => ?_
                  refine sv (.int .i64 (w64 (u10 + x1.Value))) hk rfl rfl rfl fun a hk => ?_
                  refine sv (.bool (decide ((w64 (u10 + x1.Value)) > 999999))) hk rfl rfl rfl fun a hk => ?_
                  show wpList _ _ _ [] _ _
                  refine wpList_nil ?_
                  refine hK235 _ _ ?_
                  rcases cond_some H with ⟨c236, H⟩ | ⟨c236, H⟩
                  · have hk := hk.lit 137 c236 rfl
                    refine cnd_true hk rfl rfl ?_
                    apply wp_seq_k; intro K237 hK237
                    apply wp_region_lit
                    refine sm _ rfl hk rfl rfl rfl fun a hk => ?_
                    refine sbs0 25 (Lay.int .i64) hs rfl hk rfl rfl un27 sz3 fun b238 k239 w a hk o240 hs => ?_
                    refine sa _ rfl hk rfl rfl rfl fun a hk => ?_
                    refine sa _ rfl hk rfl rfl rfl fun a hk => ?_
                    refine sa _ rfl hk rfl rfl rfl fun a hk => ?_
                    show wpList _ _ _ [] _ _
                    refine wpList_nil ?_
                    refine hK237 _ _ ?_
                    refine wp_ret ?_
                    obtain rfl := Option.some.inj H
                    exact fin hk _ [(.slice A0_ l0.length p0_), (.slice (some ⟨b238, 0, none⟩) 0 0), (.int .i64 4)] rfl ⟨rfl, ⟨rfl, ⟨rfl, trivial⟩⟩⟩ ⟨A0_, p0_, (some ⟨b238, 0, none⟩), 0, _, _, rfl, (v0_).sub (Sub.l _ (Sub.refl _)), o240, ((hs.addNil 3000).pick [(0, 25), (1, 3000)] rfl).dnil⟩
                  · have hk := hk.lit 137 c236 rfl
                    refine cnd_false hk rfl rfl ?_
                    refine wp_skip ?_
                    refine hK234 _ _ ?_
                    apply wp_seq_k; intro K241 hK241
                    obtain ⟨y_r242_7_1, h_r242_7_2, H⟩ := bind_some H
                    obtain ⟨R243, hR243⟩ : ∃ R : Act → World → Prop, R = fun a w => ∃ (A_r242_7_3 : Option Addr) (p_r242_7_4 : Nat) (b_r242_12_1 : Nat) (k_r242_7_5 : Chunk) (k_r242_12_2 : Chunk), Kn [(4, (.slice A_r242_7_3 y_r242_7_1.length p_r242_7_4)), (5, (.slice (some ⟨b_r242_12_1, 0, none⟩) 1 1)), (6, (.int .i64 0))] 153 a ∧ Sat [] w0 w [(1, k0_)] [(126141, k_r242_7_5), (126241, k_r242_12_2)] ∧ Own L_Entry 62 A_r242_7_3 p_r242_7_4 y_r242_7_1 k_r242_7_5 ∧ Own (Lay.int .i64) 3 (some ⟨b_r242_12_1, 0, none⟩) 1 ([(w64 (u10 + x1.Value))]) k_r242_12_2 := ⟨_, rfl⟩
                    refine wp_cutq R243 ?_ ?_
                    · skip
                      refine wp_region_tree (.q 0 (.q 1 (.q 2 (.q 3 (.q 4 (.q 5 (.q 6 (.q 8 (.q 9 (.q 10 (.q 11 (.alt 7 (.q 13 (.alt 12 (.alt 14 (.last 15) .stop) .stop)) (.alt 12 (.alt 7 (.alt 13 (.alt 14 (.last 15) .stop) .stop) .stop) .stop))))))))))))) mo (by kernel_rfl) (hs.pick [(2, 2)] rfl) fun _ => ?_
                      have hs := hs.drew
                      refine tqst (.slice A0_ l0.length p0_) hk rfl rfl rfl rfl (fun w hs => sm _ rfl hk rfl rfl rfl fun a hk => qe hk) fun a hk => ?_
                      refine tqst (.pointer (some ⟨b2, 1, none⟩)) hk rfl rfl rfl rfl (fun w hs => sf ⟨b2, 1, none⟩ rfl hk rfl rfl rfl fd31_1 rfl fun a hk => qe hk) fun a hk => ?_
                      refine tqst (.int .i64 x1.Key) hk rfl rfl rfl rfl (fun w hs => sl rfl hk rfl rfl rfl ag3 (box_cell hs (k := 2) rfl rfl) fun a hk => qe hk) fun a hk => ?_
                      refine tqst (.int .i64 u10) hk rfl rfl rfl rfl (fun w hs => sm _ rfl hk rfl rfl rfl fun a hk => qe hk) fun a hk => ?_
                      refine tqst (.pointer (some ⟨b2, 2, none⟩)) hk rfl rfl rfl rfl (fun w hs => sf ⟨b2, 2, none⟩ rfl hk rfl rfl rfl fd31_2 rfl fun a hk => qe hk) fun a hk => ?_
                      refine tqst (.int .i64 x1.Value) hk rfl rfl rfl rfl (fun w hs => sl rfl hk rfl rfl rfl ag3 (box_cell hs (k := 2) rfl rfl) fun a hk => qe hk) fun a hk => ?_
                      refine tqst (.int .i64 (w64 (u10 + x1.Value))) hk rfl rfl rfl rfl (fun w hs => sv (.int .i64 (w64 (u10 + x1.Value))) hk rfl rfl rfl fun a hk => qe hk) fun a hk => ?_
                      refine tqst (.int .i64 u10) hk rfl rfl rfl rfl (fun w hs => sm _ rfl hk rfl rfl rfl fun a hk => qe hk) fun a hk => ?_
                      refine tqst (.pointer (some ⟨b2, 2, none⟩)) hk rfl rfl rfl rfl (fun w hs => sf ⟨b2, 2, none⟩ rfl hk rfl rfl rfl fd31_2 rfl fun a hk => qe hk) fun a hk => ?_
                      refine tqst (.int .i64 x1.Value) hk rfl rfl rfl rfl (fun w hs => sl rfl hk rfl rfl rfl ag3 (box_cell hs (k := 2) rfl rfl) fun a hk => qe hk) fun a hk => ?_
                      refine tqst (.int .i64 (w64 (u10 + x1.Value))) hk rfl rfl rfl rfl (fun w hs => sv (.int .i64 (w64 (u10 + x1.Value))) hk rfl rfl rfl fun a hk => qe hk) fun a hk => ?_
                      refine tsst hk rfl rfl (fun K_r242_7 hK_r242_7 w hF => ?_) ?_
                      · skip
                        have hs := hs.f hF
                        refine sc rfl en127 hk rfl rfl rfl (spec_l10Put_t _ A0_ p0_ l0 _ v0_ (hs.hasD (k := 1) rfl) x1.Key (w64 (u10 + x1.Value)) _ h_r242_7_2) ?_
                        rintro _ w ⟨A_r242_7_3, p_r242_7_4, k_r242_7_5, rfl, o_r242_7_6, hG⟩ a hk
                        have hs := hs.call0k hG [126141] rfl
                        refine se (hs.pick [(2, 2)] rfl) hk (hK_r242_7 _ _ ?_)
                        refine tqst (.slice A_r242_7_3 y_r242_7_1.length p_r242_7_4) hk rfl rfl rfl rfl (fun w hs => sa _ rfl hk rfl rfl rfl fun a hk => qe hk) fun a hk => ?_
                        refine tsst hk rfl rfl (fun K_r242_12 hK_r242_12 w hF => ?_) wt_stop
                        have hs := hs.f hF
                        refine sbs (L := (Lay.int .i64)) (pv := [(0, (.int .i64 (w64 (u10 + x1.Value))))]) (xs := [(w64 (u10 + x1.Value))]) (ess := [[.int .i64 (w64 (u10 + x1.Value))]]) 126241 hs rfl hk rfl rfl rfl un27 (bs3_3 (w64 (u10 + x1.Value))) (AllOwn.cons0 ⟨rfl, rfl⟩ AllOwn.nil) rfl rfl rfl fun b_r242_12_1 k_r242_12_2 w a hk o_r242_12_3 hs => ?_
                        refine se (hs.pick [(2, 2)] rfl) hk (hK_r242_12 _ _ ?_)
                        refine tsst hk rfl rfl (fun K_r242_14 hK_r242_14 w hF => ?_) wt_stop
                        have hs := hs.f hF
                        refine sa _ rfl hk rfl rfl rfl fun a hk => ?_
                        refine se (hs.pick [(2, 2)] rfl) hk (hK_r242_14 _ _ ?_)
                        refine tlst hk rfl rfl fun K_r242_15 hK_r242_15 w hF => ?_
                        have hs := hs.f hF
                        refine sa _ rfl hk rfl rfl rfl fun a hk => ?_
                        refine se trivial hk (hK_r242_15 _ _ fun w hF => ?_)
                        have hs := hs.f hF
                        show R243 _ _
                        rw [hR243]
                        exact ⟨A_r242_7_3, p_r242_7_4, b_r242_12_1, k_r242_7_5, k_r242_12_2, (hk.c 4 rfl (hk.c 5 rfl (hk.c 6 rfl hk.k))), (hs.pick [(126141, 126141), (126241, 126241)] rfl), o_r242_7_6, o_r242_12_3⟩
                      refine tsst hk rfl rfl (fun K_r242_12 hK_r242_12 w hF => ?_) wt_stop
                      have hs := hs.f hF
                      refine sbs (L := (Lay.int .i64)) (pv := [(0, (.int .i64 (w64 (u10 + x1.Value))))]) (xs := [(w64 (u10 + x1.Value))]) (ess := [[.int .i64 (w64 (u10 + x1.Value))]]) 126241 hs rfl hk rfl rfl rfl un27 (bs3_3 (w64 (u10 + x1.Value))) (AllOwn.cons0 ⟨rfl, rfl⟩ AllOwn.nil) rfl rfl rfl fun b_r242_12_1 k_r242_12_2 w a hk o_r242_12_3 hs => ?_
                      refine se (hs.pick [(2, 2)] rfl) hk (hK_r242_12 _ _ ?_)
                      refine tsst hk rfl rfl (fun K_r242_7 hK_r242_7 w hF => ?_) wt_stop
                      have hs := hs.f hF
                      refine sc rfl en127 hk rfl rfl rfl (spec_l10Put_t _ A0_ p0_ l0 _ v0_ (hs.hasD (k := 1) rfl) x1.Key (w64 (u10 + x1.Value)) _ h_r242_7_2) ?_
                      rintro _ w ⟨A_r242_7_3, p_r242_7_4, k_r242_7_5, rfl, o_r242_7_6, hG⟩ a hk
                      have hs := hs.call0k hG [126141] rfl
                      refine se (hs.pick [(2, 2)] rfl) hk (hK_r242_7 _ _ ?_)
                      refine tsst hk rfl rfl (fun K_r242_13 hK_r242_13 w hF => ?_) wt_stop
                      have hs := hs.f hF
                      refine sa _ rfl hk rfl rfl rfl fun a hk => ?_
                      refine se (hs.pick [(2, 2)] rfl) hk (hK_r242_13 _ _ ?_)
                      refine tsst hk rfl rfl (fun K_r242_14 hK_r242_14 w hF => ?_) wt_stop
                      have hs := hs.f hF
                      refine sa _ rfl hk rfl rfl rfl fun a hk => ?_
                      refine se (hs.pick [(2, 2)] rfl) hk (hK_r242_14 _ _ ?_)
                      refine tlst hk rfl rfl fun K_r242_15 hK_r242_15 w hF => ?_
                      have hs := hs.f hF
                      refine sa _ rfl hk rfl rfl rfl fun a hk => ?_
                      refine se trivial hk (hK_r242_15 _ _ fun w hF => ?_)
                      have hs := hs.f hF
                      show R243 _ _
                      rw [hR243]
                      exact ⟨A_r242_7_3, p_r242_7_4, b_r242_12_1, k_r242_7_5, k_r242_12_2, (hk.c 4 rfl (hk.c 5 rfl (hk.c 6 rfl hk.k))), (hs.pick [(126141, 126141), (126241, 126241)] rfl), o_r242_7_6, o_r242_12_3⟩
                    · intro a w hR0
                      rw [hR243] at hR0
                      obtain ⟨A_r242_7_3, p_r242_7_4, b_r242_12_1, k_r242_7_5, k_r242_12_2, hk, hs, o_r242_7_6, o_r242_12_3⟩ := hR0
                      refine hK241 _ _ ?_
                      refine wp_ret ?_
                      obtain rfl := Option.some.inj H
                      exact fin hk _ [(.slice A_r242_7_3 y_r242_7_1.length p_r242_7_4), (.slice (some ⟨b_r242_12_1, 0, none⟩) 1 1), (.int .i64 0)] rfl ⟨rfl, ⟨rfl, ⟨rfl, trivial⟩⟩⟩ ⟨A_r242_7_3, p_r242_7_4, (some ⟨b_r242_12_1, 0, none⟩), 1, _, _, rfl, (o_r242_7_6.view).sub (Sub.r _ (Sub.refl _)), o_r242_12_3, (hs.pick [(0, 126241), (1, 126141)] rfl).dnil⟩

noncomputable def spec_l10Txn.s0 (l0 : List S_Entry) (x1 : S_Txn) (u14 : List S_Entry) (u18 : Int) (u23 : List Int) : Option (((List S_Entry) × Int × (List Int)) ⊕ Ex ((List S_Entry) × (List Int)) ((List S_Entry) × S_Result)) :=
  (bif (decide (u18 < (x1.Ops.length : Int))) then (if 0 ≤ u18 ∧ u18 < (x1.Ops.length : Int) then ((spec_l10Do.f u14 (x1.Ops.getD u18.toNat z_Op)).bind fun y54 => (bif (y54.2.2 != 0) then (some (.inr (.ret (l0, (⟨y54.2.2, ([] : List Int)⟩ : S_Result))))) else (if u23.length + y54.2.1.length ≤ 1073741824 then (some (.inl (y54.1, (w64 (u18 + 1)), (u23 ++ y54.2.1)))) else none))) else none) else (some (.inr (.out (u14, u23)))))
noncomputable def spec_l10Txn.f (l0 : List S_Entry) (x1 : S_Txn) : Option ((List S_Entry) × S_Result) :=
  ((loopO (fun s => spec_l10Txn.s0 l0 x1 s.1 s.2.1 s.2.2) (l0, 0, ([] : List Int))).bind fun o => match o with | .out (u28, u32) => (some (u28, (⟨0, u32⟩ : S_Result))) | .ret r => (some r))
set_option maxRecDepth 100000 in
set_option maxHeartbeats 0 in
theorem spec_l10Txn_t (w0 : World) (A0_ : Option Addr) (p0_ : Nat) (l0 : List S_Entry) (k0_ : Chunk) (v0_ : View L_Entry A0_ p0_ l0 k0_) (w0_ : Has w0 k0_) (x1 : S_Txn) (A1_0 : Option Addr) (p1_0 : Nat) (k1_0 : Chunk) (v1_0 : View L_Op A1_0 p1_0 x1.Ops k1_0) (w1_0 : Has w0 k1_0) (r : (List S_Entry) × S_Result) (H : spec_l10Txn.f l0 x1 = some r) :
    Calls Try.prog 73 #[.slice A0_ l0.length p0_, .agg #[.slice A1_0 x1.Ops.length p1_0]] w0 (Ret (fun v w => ∃ (A0 : Option Addr) (p0 : Nat), ∃ (A1 : Option Addr) (p1 : Nat) (k1 : Chunk), ∃ (kS : Chunk), v = .tuple #[.slice A0 r.1.length p0, .agg #[.int .i64 r.2.Code, .slice A1 r.2.Values.length p1]] ∧ View L_Entry A0 p0 r.1 (k0_ ++ (k1_0 ++ kS)) ∧ Own (Lay.int .i64) 3 A1 p1 r.2.Values k1 ∧ Sat [] w0 w [] [(0, k1), (1, kS)])) := by
  have hs : Sat [] w0 w0 [(1, k0_), (2, k1_0)] [] := Sat.init w0 [(1, k0_), (2, k1_0)] [] (by simp only [List.mem_cons, List.not_mem_nil, or_false]; rintro x (rfl | rfl) <;> assumption) (by simp) List.nodup_nil (by simp [blks])
  unfold spec_l10Txn.f at H
  refine enter Try.func73 rfl Try.ntmps73 rfl fun a hk => ?_
  apply wp_seq_k; intro K1 hK1
  apply wp_region_lit
  refine sbx 3 hs rfl hk rfl rfl rfl rfl fun b2 w a hk hs => ?_
  refine sa _ rfl hk rfl rfl rfl fun a hk => ?_
  refine salx 4 hs rfl hk rfl rfl ze43 rfl fun b3 w a hk hs => ?_
  show wpList _ _ _ [] _ _
  refine wpList_nil ?_
  refine hK1 _ _ ?_
  apply wp_seq_k; intro K4 hK4
  apply wp_region_lit
  refine sm _ rfl hk rfl rfl rfl fun a hk => ?_
  refine sa _ rfl hk rfl rfl rfl fun a hk => ?_
  show wpList _ _ _ [] _ _
  refine wpList_nil ?_
  refine hK4 _ _ ?_
  apply wp_seq_k; intro K5 hK5
  apply wp_region_lit
  refine sbs0 5 (Lay.int .i64) hs rfl hk rfl rfl un27 sz3 fun b6 k7 w a hk o8 hs => ?_
  refine sbd (pv := [(1, (.slice (some ⟨b6, 0, none⟩) 0 0))]) rfl hk rfl rfl rfl (bd43_4 (some ⟨b6, 0, none⟩) 0 0) fun a hk => ?_
  refine salx 6 hs rfl hk rfl rfl ze43 rfl fun b9 w a hk hs => ?_
  refine ssw 6 hs rfl rfl hk rfl rfl rfl rfl sz43 (by simp [Value.oneCell']) rfl fun w a hk hs => ?_
  show wpList _ _ _ [] _ _
  refine wpList_nil ?_
  refine hK5 _ _ ?_
  apply wp_seq_k; intro K10 hK10
  apply wp_seq_k; intro K11 hK11
  apply wp_region_lit
  refine sa _ rfl hk rfl rfl rfl fun a hk => ?_
  show wpList _ _ _ [] _ _
  refine wpList_nil ?_
  refine hK11 _ _ ?_
  obtain ⟨o37, h38, HL39⟩ := bind_some H
  clear H
  obtain ⟨R40, hR40⟩ : ∃ R : Act → World → Prop, R = fun a w => ∃ (u28 : List S_Entry) (u32 : List Int) (A29 : Option Addr) (p30 : Nat) (A35 : Option Addr) (p36 : Nat) (k33 : Chunk) (kf13 : Chunk), o37 = .out (u28, u32) ∧ Kn [(5, (.pointer (some ⟨b3, 0, none⟩))), (6, (.slice A29 u28.length p30)), (7, (.pointer (some ⟨b9, 0, none⟩)))] 47 a ∧ Sat [] w0 w [(1, k0_), (2, k1_0)] [(7, kf13), (4, [(b3, .cells #[.int .i64 0, .slice none 0 0] 43 (0, 0))]), (6, [(b9, .cells #[.int .i64 0, .slice A35 u32.length p36] 43 (0, 0))]), (5, k33)] ∧ View L_Entry A29 p30 u28 (k0_ ++ (k1_0 ++ kf13)) ∧ Own (Lay.int .i64) 3 A35 p36 u32 k33 := ⟨_, rfl⟩
  refine wp_cutq R40 ?_ ?_
  · refine wp_block ?_
    obtain ⟨fu42, h38⟩ := loopO_some h38
    obtain ⟨I41, hI41⟩ : ∃ I : Nat → Act → World → Prop, I = fun fu a w => ∃ (u14 : List S_Entry) (u18 : Int) (u23 : List Int) (A15 : Option Addr) (p16 : Nat) (A26 : Option Addr) (p27 : Nat) (k24 : Chunk) (kf12 : Chunk), loopN (fun s => spec_l10Txn.s0 l0 x1 s.1 s.2.1 s.2.2) fu (u14, u18, u23) = some o37 ∧ Kn [(0, (.slice A0_ l0.length p0_)), (3, (.pointer (some ⟨b2, 0, none⟩))), (5, (.pointer (some ⟨b3, 0, none⟩))), (6, (.slice A15 u14.length p16)), (7, (.pointer (some ⟨b9, 0, none⟩))), (8, (.int .i64 u18))] 47 a ∧ Sat [] w0 w [(1, k0_), (2, k1_0)] [(7, kf12), (3, [(b2, .cells #[.slice A1_0 x1.Ops.length p1_0] 48 (0, 0))]), (4, [(b3, .cells #[.int .i64 0, .slice none 0 0] 43 (0, 0))]), (6, [(b9, .cells #[.int .i64 0, .slice A26 u23.length p27] 43 (0, 0))]), (5, k24)] ∧ View L_Entry A15 p16 u14 (k0_ ++ (k1_0 ++ kf12)) ∧ Own (Lay.int .i64) 3 A26 p27 u23 k24 := ⟨_, rfl⟩
    refine wp_loop_ghost I41 fu42 ?_ ?_
    · rw [hI41]
      exact ⟨l0, 0, ([] : List Int), A0_, p0_, (some ⟨b6, 0, none⟩), 0, _, _, h38, (hk.c 0 rfl (hk.c 3 rfl (hk.c 5 rfl (hk.c 6 rfl (hk.c 7 rfl (hk.c 8 rfl hk.k)))))), ((hs.addNil 3007).pick [(7, 3007), (3, 3), (4, 4), (6, 6), (5, 5)] rfl), (v0_).sub (Sub.l _ (Sub.refl _)), o8⟩
    · clear h38 hk hs
      intro fu42 a w hI0
      rw [hI41] at hI0
      obtain ⟨u14, u18, u23, A15, p16, A26, p27, k24, kf12, hi, hk, hs, v17, o25⟩ := hI0
      obtain ⟨x43, H, h44⟩ := loop_round hi
      try dsimp only at H
      unfold spec_l10Txn.s0 at H
      apply wp_seq_k; intro K45 hK45
      apply wp_seq_k; intro K46 hK46
      apply wp_region_lit
      refine sm _ rfl hk rfl rfl rfl fun a hk => ?_
      refine sf ⟨b2, 0, none⟩ rfl hk rfl rfl rfl fd48_0 rfl fun a hk => ?_
      refine sl rfl hk rfl rfl rfl ag46 (box_cell hs (k := 3) rfl rfl) fun a hk => ?_
      refine sle rfl hk rfl rfl rfl un46 fun a hk => ?_
      refine sv (.bool (decide (u18 < (x1.Ops.length : Int)))) hk rfl rfl rfl fun a hk => ?_
      show wpList _ _ _ [] _ _
      refine wpList_nil ?_
      refine hK46 _ _ ?_
      rcases cond_some H with ⟨c47, H⟩ | ⟨c47, H⟩
      · have hk := hk.lit 19 c47 rfl
        refine cnd_true hk rfl rfl ?_
        refine wp_skip ?_
        refine hK45 _ _ ?_
        apply wp_seq_k; intro K48 hK48
        refine wp_block ?_
        apply wp_seq_k; intro K49 hK49
        apply wp_region_lit
        refine sm _ rfl hk rfl rfl rfl fun a hk => ?_
        refine sf ⟨b2, 0, none⟩ rfl hk rfl rfl rfl fd48_0 rfl fun a hk => ?_
        refine sl rfl hk rfl rfl rfl ag46 (box_cell hs (k := 3) rfl rfl) fun a hk => ?_
        refine sm _ rfl hk rfl rfl rfl fun a hk => ?_
        rcases ite_some H with ⟨c50, H⟩ | ⟨_, H⟩
        rotate_left
        · cases H
        obtain ⟨b51, q52, hAc50⟩ := (v1_0).some_ u18 c50.1 c50.2
        refine si rfl hk rfl rfl rfl rfl un46 sz31 c50.1 c50.2 hAc50 fun a hk => ?_
        obtain ⟨_, rfl, e53⟩ := (v1_0).at_ z_Op u18 c50.1 c50.2
        refine sln [.int .i64 ((x1.Ops.getD u18.toNat z_Op).Kind), .int .i64 ((x1.Ops.getD u18.toNat z_Op).Key), .int .i64 ((x1.Ops.getD u18.toNat z_Op).Value)] rfl hk rfl rfl rfl ag31 sz31 (cells_at e53 (hs.hasD (k := 2) rfl)) fun a hk => ?_
        obtain ⟨y54, h55, H⟩ := bind_some H
        refine sc rfl en65 hk rfl rfl rfl (spec_l10Do_t _ A15 p16 u14 _ v17 (Has.app (hs.hasD (k := 1) rfl) (Has.app (hs.hasD (k := 2) rfl) (hs.hasG (k := 7) rfl))) (x1.Ops.getD u18.toNat z_Op) _ h55) ?_
        rintro _ w ⟨A57, p58, A60, p61, k62, k56, rfl, v59, o63, hG⟩ a hk
        have hs := hs.call0k hG [9, 8] rfl
        refine sm _ rfl hk rfl rfl rfl fun a hk => ?_
        refine sv (.slice A57 y54.1.length p58) hk rfl rfl rfl fun a hk => ?_
        refine sv (.slice A60 y54.2.1.length p61) hk rfl rfl rfl fun a hk => ?_
        refine sv (.int .i64 y54.2.2) hk rfl rfl rfl fun a hk => ?_
        refine sa _ rfl hk rfl rfl rfl fun a hk => ?_
        refine sa _ rfl hk rfl rfl rfl fun a hk => ?_
        refine sa _ rfl hk rfl rfl rfl fun a hk => ?_
        show wpList _ _ _ [] _ _
        refine wpList_nil ?_
        refine hK49 _ _ ?_
        apply wp_seq_k; intro K64 hK64
        apply wp_seq_k; intro K65 hK65
        apply wp_region_lit
        refine sm _ rfl hk rfl rfl rfl fun a hk => ?_
        refine sv (.bool (y54.2.2 != 0)) hk rfl rfl rfl fun a hk => ?_
        show wpList _ _ _ [] _ _
        refine wpList_nil ?_
        refine hK65 _ _ ?_
        rcases cond_some H with ⟨c66, H⟩ | ⟨c66, H⟩
        · have hk := hk.lit 34 c66 rfl
          refine cnd_true hk rfl rfl ?_
          apply wp_seq_k; intro K67 hK67
          apply wp_region_lit
          refine sm _ rfl hk rfl rfl rfl fun a hk => ?_
          refine sm _ rfl hk rfl rfl rfl fun a hk => ?_
          refine sbs0 10 (Lay.int .i64) hs rfl hk rfl rfl un27 sz3 fun b68 k69 w a hk o70 hs => ?_
          refine sbd (pv := [(0, (.int .i64 y54.2.2)), (1, (.slice (some ⟨b68, 0, none⟩) 0 0))]) rfl hk rfl rfl rfl (bd43_5 y54.2.2 (some ⟨b68, 0, none⟩) 0 0) fun a hk => ?_
          refine sa _ rfl hk rfl rfl rfl fun a hk => ?_
          refine ssw 4 hs rfl rfl hk rfl rfl rfl rfl sz43 (by simp [Value.oneCell']) rfl fun w a hk hs => ?_
          show wpList _ _ _ [] _ _
          refine wpList_nil ?_
          refine hK67 _ _ ?_
          refine wp_ret ?_
          obtain rfl := Option.some.inj H
          have ho37 := h44
          try dsimp only at ho37
          subst ho37
          have H := HL39
          try dsimp only at H
          obtain rfl := Option.some.inj H
          exact fin hk _ [(.slice A0_ l0.length p0_), (.agg #[.int .i64 y54.2.2, .slice (some ⟨b68, 0, none⟩) 0 0])] rfl ⟨rfl, ⟨⟨_, rfl, run_loadN ag43 sz43 (box_cells hs (k := 4) rfl)⟩, trivial⟩⟩ ⟨A0_, p0_, (some ⟨b68, 0, none⟩), 0, _, _, rfl, (v0_).sub (Sub.l _ (Sub.refl _)), o70, ((hs.addNil 3000).pick [(0, 10), (1, 3000)] rfl).dnil⟩
        · have hk := hk.lit 34 c66 rfl
          refine cnd_false hk rfl rfl ?_
          refine wp_skip ?_
          refine hK64 _ _ ?_
          apply wp_seq_k; intro K71 hK71
          apply wp_region_lit
          refine sm _ rfl hk rfl rfl rfl fun a hk => ?_
          refine sa _ rfl hk rfl rfl rfl fun a hk => ?_
          show wpList _ _ _ [] _ _
          refine wpList_nil ?_
          refine hK71 _ _ ?_
          apply wp_region_lit
          refine sf ⟨b9, 1, none⟩ rfl hk rfl rfl rfl fd43_1 rfl fun a hk => ?_
          refine sl rfl hk rfl rfl rfl ag27 (box_cell hs (k := 6) rfl rfl) fun a hk => ?_
          refine sm _ rfl hk rfl rfl rfl fun a hk => ?_
          rcases ite_some H with ⟨c72, H⟩ | ⟨_, H⟩
          rotate_left
          · cases H
          refine sap 5 (xs := u23) (ys := y54.2.1) (flat_flat : ((Lay.int .i64)).Flat) hs rfl o25 o63.view (hs.hasG (k := 9) rfl) rfl hk rfl rfl rfl rfl rfl rfl un27 mk3 rfl rfl rfl c72 fun A73 p74 k75 w a hk o76 hs => ?_
          refine sf ⟨b9, 1, none⟩ rfl hk rfl rfl rfl fd43_1 rfl fun a hk => ?_
          refine ssx (cs' := #[.int .i64 0, .slice A73 (u23 ++ y54.2.1).length p74]) 6 hs rfl rfl hk rfl rfl rfl rfl sz27 rfl rfl rfl rfl fun w a hk hs => ?_
          show wpList _ _ _ [] _ _
          refine wpList_nil ?_
          refine hK48 _ _ ?_
          apply wp_region_lit
          refine sm _ rfl hk rfl rfl rfl fun a hk => ?_
          refine sv (.int .i64 (w64 (u18 + 1))) hk rfl rfl rfl fun a hk => ?_
          refine sa _ rfl hk rfl rfl rfl fun a hk => ?_
          show wpList _ _ _ [] _ _
          refine wpList_nil ?_
          obtain rfl := Option.some.inj H
          obtain ⟨m77, hmm77, h44⟩ := h44
          show ∃ n', n' < _ ∧ I41 n' _ _
          refine ⟨m77, hmm77, ?_⟩
          rw [hI41]
          exact ⟨y54.1, (w64 (u18 + 1)), (u23 ++ y54.2.1), A57, p58, A73, p74, _, _, h44, (hk.c 0 rfl (hk.c 3 rfl (hk.c 5 rfl (hk.c 6 rfl (hk.c 7 rfl (hk.c 8 rfl hk.k)))))), ((hs.join (k := 7) (j := 8) 4011 rfl rfl).pick [(7, 4011), (3, 3), (4, 4), (6, 6), (5, 5)] rfl), (v59).sub (Sub.a (Sub.a (Sub.l _ (Sub.refl _)) (Sub.a (Sub.r _ (Sub.l _ (Sub.refl _))) (Sub.r _ (Sub.r _ (Sub.l _ (Sub.refl _)))))) (Sub.r _ (Sub.r _ (Sub.r _ (Sub.refl _))))), o76⟩
      · have hk := hk.lit 19 c47 rfl
        refine cnd_false hk rfl rfl ?_
        refine wp_exit ?_
        obtain rfl := Option.some.inj H
        show R40 _ _
        rw [hR40]
        exact ⟨u14, u23, A15, p16, A26, p27, _, _, h44.symm, (hk.c 5 rfl (hk.c 6 rfl (hk.c 7 rfl hk.k))), (hs.pick [(7, 7), (4, 4), (6, 6), (5, 5)] rfl), (v17).sub (Sub.refl _), o25⟩
  · intro a w hR0
    rw [hR40] at hR0
    obtain ⟨u28, u32, A29, p30, A35, p36, k33, kf13, rfl, hk, hs, v31, o34⟩ := hR0
    have H := HL39
    try dsimp only at H
    refine hK10 _ _ ?_
    apply wp_seq_k; intro K78 hK78
    refine wp_region_tree (.q 0 (.q 1 (.alt 2 (.last 3) .stop))) mo (by kernel_rfl) (hs.pick [(7, 7), (4, 4), (6, 6), (5, 5)] rfl) fun _ => ?_
    have hs := hs.drew
    refine tqst (.slice A29 u28.length p30) hk rfl rfl rfl rfl (fun w hs => sm _ rfl hk rfl rfl rfl fun a hk => qe hk) fun a hk => ?_
    refine tqst (.agg #[.int .i64 0, .slice A35 u32.length p36]) hk rfl rfl rfl rfl (fun w hs => sln [.int .i64 0, .slice A35 u32.length p36] rfl hk rfl rfl rfl ag43 sz43 (box_cells hs (k := 6) rfl) fun a hk => qe hk) fun a hk => ?_
    refine tsst hk rfl rfl (fun K_r79_2 hK_r79_2 w hF => ?_) wt_stop
    have hs := hs.f hF
    refine sa _ rfl hk rfl rfl rfl fun a hk => ?_
    refine se (hs.pick [(7, 7), (4, 4), (6, 6), (5, 5)] rfl) hk (hK_r79_2 _ _ ?_)
    refine tlst hk rfl rfl fun K_r79_3 hK_r79_3 w hF => ?_
    have hs := hs.f hF
    refine ssw 4 hs rfl rfl hk rfl rfl rfl rfl sz43 (by simp [Value.oneCell']) rfl fun w a hk hs => ?_
    refine se trivial hk (hK_r79_3 _ _ fun w hF => ?_)
    have hs := hs.f hF
    refine hK78 _ _ ?_
    refine wp_ret ?_
    obtain rfl := Option.some.inj H
    exact fin hk _ [(.slice A29 u28.length p30), (.agg #[.int .i64 0, .slice A35 u32.length p36])] rfl ⟨rfl, ⟨⟨_, rfl, run_loadN ag43 sz43 (box_cells hs (k := 4) rfl)⟩, trivial⟩⟩ ⟨A29, p30, A35, p36, _, _, rfl, (v31).sub (Sub.refl _), o34, (hs.pick [(0, 5), (1, 7)] rfl).dnil⟩

noncomputable def spec_MapTxn.f (l0 : List S_Entry) (x1 : S_Txn) : Option ((List S_Entry) × S_Result × Int) :=
  (bif (decide ((l0.length : Int) > 4096)) then (some (([] : List S_Entry), (⟨0, ([] : List Int)⟩ : S_Result), 2)) else ((((spec_MapOK.f l0).bind fun y19 => (bif (!y19) then (some true) else ((spec_l09Txn.f x1).bind fun y22 => (some (!y22))))) : Option (Bool)).bind fun u14 => (bif u14 then (some (([] : List S_Entry), (⟨0, ([] : List Int)⟩ : S_Result), 1)) else ((spec_l10Txn.f l0 x1).bind fun y30 => (if ([] : List S_Entry).length + y30.1.length ≤ 1073741824 then (some ((([] : List S_Entry) ++ y30.1), y30.2, 0)) else none)))))
set_option maxRecDepth 100000 in
set_option maxHeartbeats 0 in
theorem spec_MapTxn_t (w0 : World) (A0_ : Option Addr) (p0_ : Nat) (l0 : List S_Entry) (k0_ : Chunk) (v0_ : View L_Entry A0_ p0_ l0 k0_) (w0_ : Has w0 k0_) (x1 : S_Txn) (A1_0 : Option Addr) (p1_0 : Nat) (k1_0 : Chunk) (v1_0 : View L_Op A1_0 p1_0 x1.Ops k1_0) (w1_0 : Has w0 k1_0) (r : (List S_Entry) × S_Result × Int) (H : spec_MapTxn.f l0 x1 = some r) :
    Calls Try.prog 23 #[.slice A0_ l0.length p0_, .agg #[.slice A1_0 x1.Ops.length p1_0]] w0 (Ret (fun v w => ∃ (A0 : Option Addr) (p0 : Nat) (k0 : Chunk), ∃ (A1 : Option Addr) (p1 : Nat) (k1 : Chunk), v = .tuple #[.slice A0 r.1.length p0, .agg #[.int .i64 r.2.1.Code, .slice A1 r.2.1.Values.length p1], .int .i64 r.2.2] ∧ Own L_Entry 62 A0 p0 r.1 k0 ∧ Own (Lay.int .i64) 3 A1 p1 r.2.1.Values k1 ∧ Sat [] w0 w [] [(0, k0), (1, k1)])) := by
  have hs : Sat [] w0 w0 [(1, k0_), (2, k1_0)] [] := Sat.init w0 [(1, k0_), (2, k1_0)] [] (by simp only [List.mem_cons, List.not_mem_nil, or_false]; rintro x (rfl | rfl) <;> assumption) (by simp) List.nodup_nil (by simp [blks])
  unfold spec_MapTxn.f at H
  refine enter Try.func23 rfl Try.ntmps23 rfl fun a hk => ?_
  apply wp_seq_k; intro K1 hK1
  apply wp_region_lit
  refine sbx 3 hs rfl hk rfl rfl rfl rfl fun b2 w a hk hs => ?_
  refine sa _ rfl hk rfl rfl rfl fun a hk => ?_
  refine salx 4 hs rfl hk rfl rfl ze43 rfl fun b3 w a hk hs => ?_
  refine sa _ rfl hk rfl rfl rfl fun a hk => ?_
  show wpList _ _ _ [] _ _
  refine wpList_nil ?_
  refine hK1 _ _ ?_
  apply wp_seq_k; intro K4 hK4
  apply wp_seq_k; intro K5 hK5
  apply wp_region_lit
  refine sm _ rfl hk rfl rfl rfl fun a hk => ?_
  refine sle rfl hk rfl rfl rfl un26 fun a hk => ?_
  refine sv (.bool (decide ((l0.length : Int) > 4096))) hk rfl rfl rfl fun a hk => ?_
  show wpList _ _ _ [] _ _
  refine wpList_nil ?_
  refine hK5 _ _ ?_
  rcases cond_some H with ⟨c6, H⟩ | ⟨c6, H⟩
  · have hk := hk.lit 11 c6 rfl
    refine cnd_true hk rfl rfl ?_
    apply wp_seq_k; intro K7 hK7
    apply wp_region_lit
    refine sbs0 5 L_Entry hs rfl hk rfl rfl un26 sz62 fun b8 k9 w a hk o10 hs => ?_
    refine sbd (pv := []) rfl hk rfl rfl rfl bd43_6 fun a hk => ?_
    refine sa _ rfl hk rfl rfl rfl fun a hk => ?_
    refine ssw 4 hs rfl rfl hk rfl rfl rfl rfl sz43 (by simp [Value.oneCell']) rfl fun w a hk hs => ?_
    refine sa _ rfl hk rfl rfl rfl fun a hk => ?_
    show wpList _ _ _ [] _ _
    refine wpList_nil ?_
    refine hK7 _ _ ?_
    refine wp_ret ?_
    obtain rfl := Option.some.inj H
    have hs := hs.addNil 6
    exact fin hk _ [(.slice (some ⟨b8, 0, none⟩) 0 0), (.agg #[.int .i64 0, .slice none 0 0]), (.int .i64 2)] rfl ⟨rfl, ⟨⟨_, rfl, run_loadN ag43 sz43 (box_cells hs (k := 4) rfl)⟩, ⟨rfl, trivial⟩⟩⟩ ⟨(some ⟨b8, 0, none⟩), 0, _, none, 0, [], rfl, o10, Own.nil _ _, (hs.pick [(0, 5), (1, 6)] rfl).dnil⟩
  · have hk := hk.lit 11 c6 rfl
    refine cnd_false hk rfl rfl ?_
    refine wp_skip ?_
    refine hK4 _ _ ?_
    apply wp_seq_k; intro K11 hK11
    apply wp_seq_k; intro K12 hK12
    obtain ⟨o15, h16, HL17⟩ := bind_some H
    clear H
    obtain ⟨R18, hR18⟩ : ∃ R : Act → World → Prop, R = fun a w => ∃ (u14 : Bool), u14 = o15 ∧ Kn [(0, (.slice A0_ l0.length p0_)), (3, (.pointer (some ⟨b2, 0, none⟩))), (5, (.pointer (some ⟨b3, 0, none⟩))), (21, (.bool u14))] 34 a ∧ Sat [] w0 w [(1, k0_), (2, k1_0)] [(3, [(b2, .cells #[.slice A1_0 x1.Ops.length p1_0] 48 (0, 0))]), (4, [(b3, .cells #[.int .i64 0, .slice none 0 0] 43 (0, 0))])] := ⟨_, rfl⟩
    refine wp_cutq R18 ?_ ?_
    · have H := h16
      apply wp_region_lit
      refine sm _ rfl hk rfl rfl rfl fun a hk => ?_
      obtain ⟨y19, h20, H⟩ := bind_some H
      refine sc rfl en63 hk rfl rfl rfl (spec_MapOK_t _ A0_ p0_ l0 _ v0_ (hs.hasD (k := 1) rfl) _ h20) ?_
      rintro _ w ⟨rfl, hG⟩ a hk
      have hs := hs.call0 hG
      refine sv (.bool (!y19)) hk rfl rfl rfl fun a hk => ?_
      refine sm _ rfl hk rfl rfl rfl fun a hk => ?_
      rcases cond_some H with ⟨c21, H⟩ | ⟨c21, H⟩
      · have hk := hk.lit 17 c21 rfl
        refine sk hk rfl rfl rfl fun a hk => ?_
        refine sk hk rfl rfl rfl fun a hk => ?_
        refine sk hk rfl rfl rfl fun a hk => ?_
        refine sv (.bool true) hk rfl rfl rfl fun a hk => ?_
        show wpList _ _ _ [] _ _
        refine wpList_nil ?_
        obtain rfl := Option.some.inj H
        show R18 _ _
        rw [hR18]
        exact ⟨true, rfl, (hk.c 0 rfl (hk.c 3 rfl (hk.c 5 rfl (hk.c 21 rfl hk.k)))), (hs.pick [(3, 3), (4, 4)] rfl)⟩
      · have hk := hk.lit 17 c21 rfl
        refine sln [.slice A1_0 x1.Ops.length p1_0] rfl hk rfl rfl rfl ag48 sz48 (box_cells hs (k := 3) rfl) fun a hk => ?_
        obtain ⟨y22, h23, H⟩ := bind_some H
        refine sc rfl en72 hk rfl rfl rfl (spec_l09Txn_t _ x1 A1_0 p1_0 _ v1_0 (hs.hasD (k := 2) rfl) _ h23) ?_
        rintro _ w ⟨rfl, hG⟩ a hk
        have hs := hs.call0 hG
        refine sv (.bool (!y22)) hk rfl rfl rfl fun a hk => ?_
        refine sv (.bool (!y22)) hk rfl rfl rfl fun a hk => ?_
        show wpList _ _ _ [] _ _
        refine wpList_nil ?_
        obtain rfl := Option.some.inj H
        show R18 _ _
        rw [hR18]
        exact ⟨(!y22), rfl, (hk.c 0 rfl (hk.c 3 rfl (hk.c 5 rfl (hk.c 21 rfl hk.k)))), (hs.pick [(3, 3), (4, 4)] rfl)⟩
    · intro a w hR0
      rw [hR18] at hR0
      obtain ⟨u14, rfl, hk, hs⟩ := hR0
      have H := HL17
      try dsimp only at H
      refine hK12 _ _ ?_
      rcases cond_some H with ⟨c24, H⟩ | ⟨c24, H⟩
      · have hk := hk.lit 21 c24 rfl
        refine cnd_true hk rfl rfl ?_
        apply wp_seq_k; intro K25 hK25
        apply wp_region_lit
        refine sbs0 8 L_Entry hs rfl hk rfl rfl un26 sz62 fun b26 k27 w a hk o28 hs => ?_
        refine sbd (pv := []) rfl hk rfl rfl rfl bd43_6 fun a hk => ?_
        refine sa _ rfl hk rfl rfl rfl fun a hk => ?_
        refine ssw 4 hs rfl rfl hk rfl rfl rfl rfl sz43 (by simp [Value.oneCell']) rfl fun w a hk hs => ?_
        refine sa _ rfl hk rfl rfl rfl fun a hk => ?_
        show wpList _ _ _ [] _ _
        refine wpList_nil ?_
        refine hK25 _ _ ?_
        refine wp_ret ?_
        obtain rfl := Option.some.inj H
        have hs := hs.addNil 9
        exact fin hk _ [(.slice (some ⟨b26, 0, none⟩) 0 0), (.agg #[.int .i64 0, .slice none 0 0]), (.int .i64 1)] rfl ⟨rfl, ⟨⟨_, rfl, run_loadN ag43 sz43 (box_cells hs (k := 4) rfl)⟩, ⟨rfl, trivial⟩⟩⟩ ⟨(some ⟨b26, 0, none⟩), 0, _, none, 0, [], rfl, o28, Own.nil _ _, (hs.pick [(0, 8), (1, 9)] rfl).dnil⟩
      · have hk := hk.lit 21 c24 rfl
        refine cnd_false hk rfl rfl ?_
        refine wp_skip ?_
        refine hK11 _ _ ?_
        apply wp_seq_k; intro K29 hK29
        apply wp_region_lit
        refine sm _ rfl hk rfl rfl rfl fun a hk => ?_
        refine sln [.slice A1_0 x1.Ops.length p1_0] rfl hk rfl rfl rfl ag48 sz48 (box_cells hs (k := 3) rfl) fun a hk => ?_
        obtain ⟨y30, h31, H⟩ := bind_some H
        refine sc rfl en73 hk rfl rfl rfl (spec_l10Txn_t _ A0_ p0_ l0 _ v0_ (hs.hasD (k := 1) rfl) x1 A1_0 p1_0 _ v1_0 (hs.hasD (k := 2) rfl) _ h31) ?_
        rintro _ w ⟨A33, p34, A36, p37, k38, k32, rfl, v35, o39, hG⟩ a hk
        have hs := hs.call0k hG [11, 10] rfl
        refine sm _ rfl hk rfl rfl rfl fun a hk => ?_
        refine sv (.slice A33 y30.1.length p34) hk rfl rfl rfl fun a hk => ?_
        refine sv (.agg #[.int .i64 y30.2.Code, .slice A36 y30.2.Values.length p37]) hk rfl rfl rfl fun a hk => ?_
        refine salx 12 hs rfl hk rfl rfl ze43 rfl fun b40 w a hk hs => ?_
        refine sa _ rfl hk rfl rfl rfl fun a hk => ?_
        refine ssw 12 hs rfl rfl hk rfl rfl rfl rfl sz43 (by simp [Value.oneCell']) rfl fun w a hk hs => ?_
        show wpList _ _ _ [] _ _
        refine wpList_nil ?_
        refine hK29 _ _ ?_
        apply wp_seq_k; intro K41 hK41
        refine wp_region_tree (.q 1 (.q 3 (.alt 0 (.alt 2 (.alt 4 (.alt 5 (.last 6) .stop) .stop) .stop) .stop))) mo (by kernel_rfl) (hs.pick [(12, 12), (11, 11), (10, 10), (3, 3)] rfl) fun _ => ?_
        have hs := hs.drew
        refine tqst (.slice A33 y30.1.length p34) hk rfl rfl rfl rfl (fun w hs => sm _ rfl hk rfl rfl rfl fun a hk => qe hk) fun a hk => ?_
        refine tqst (.agg #[.int .i64 y30.2.Code, .slice A36 y30.2.Values.length p37]) hk rfl rfl rfl rfl (fun w hs => sln [.int .i64 y30.2.Code, .slice A36 y30.2.Values.length p37] rfl hk rfl rfl rfl ag43 sz43 (box_cells hs (k := 12) rfl) fun a hk => qe hk) fun a hk => ?_
        refine tsst hk rfl rfl (fun K_r42_0 hK_r42_0 w hF => ?_) wt_stop
        have hs := hs.f hF
        refine sbs0 14 L_Entry hs rfl hk rfl rfl un26 sz62 fun b43 k44 w a hk o45 hs => ?_
        refine se (hs.pick [(12, 12), (11, 11), (10, 10), (3, 3)] rfl) hk (hK_r42_0 _ _ ?_)
        refine tsst hk rfl rfl (fun K_r42_2 hK_r42_2 w hF => ?_) wt_stop
        have hs := hs.f hF
        rcases ite_some H with ⟨c46, H⟩ | ⟨_, H⟩
        rotate_left
        · cases H
        refine sap 14 (xs := ([] : List S_Entry)) (ys := y30.1) (flat_flat : (L_Entry).Flat) hs rfl o45 v35 (Has.app (hs.hasD (k := 1) rfl) (Has.app (hs.hasD (k := 2) rfl) (hs.hasG (k := 10) rfl))) rfl hk rfl rfl rfl rfl rfl rfl un26 mk62 rfl rfl rfl c46 fun A47 p48 k49 w a hk o50 hs => ?_
        refine se (hs.pick [(12, 12), (11, 11), (10, 10), (3, 3)] rfl) hk (hK_r42_2 _ _ ?_)
        refine tsst hk rfl rfl (fun K_r42_4 hK_r42_4 w hF => ?_) wt_stop
        have hs := hs.f hF
        refine sa _ rfl hk rfl rfl rfl fun a hk => ?_
        refine se (hs.pick [(12, 12), (11, 11), (10, 10), (3, 3)] rfl) hk (hK_r42_4 _ _ ?_)
        refine tsst hk rfl rfl (fun K_r42_5 hK_r42_5 w hF => ?_) wt_stop
        have hs := hs.f hF
        refine ssw 4 hs rfl rfl hk rfl rfl rfl rfl sz43 (by simp [Value.oneCell']) rfl fun w a hk hs => ?_
        refine se (hs.pick [(12, 12), (11, 11), (10, 10), (3, 3)] rfl) hk (hK_r42_5 _ _ ?_)
        refine tlst hk rfl rfl fun K_r42_6 hK_r42_6 w hF => ?_
        have hs := hs.f hF
        refine sa _ rfl hk rfl rfl rfl fun a hk => ?_
        refine se trivial hk (hK_r42_6 _ _ fun w hF => ?_)
        have hs := hs.f hF
        refine hK41 _ _ ?_
        refine wp_ret ?_
        obtain rfl := Option.some.inj H
        exact fin hk _ [(.slice A47 (([] : List S_Entry) ++ y30.1).length p48), (.agg #[.int .i64 y30.2.Code, .slice A36 y30.2.Values.length p37]), (.int .i64 0)] rfl ⟨rfl, ⟨⟨_, rfl, run_loadN ag43 sz43 (box_cells hs (k := 4) rfl)⟩, ⟨rfl, trivial⟩⟩⟩ ⟨A47, p48, _, A36, p37, _, rfl, o50, o39, (hs.pick [(0, 14), (1, 11)] rfl).dnil⟩

noncomputable def laws_toOp.f (x0 : S_Op) : Option (S_Op) :=
  (some (⟨x0.Kind, x0.Key, x0.Value⟩ : S_Op))
set_option maxRecDepth 100000 in
set_option maxHeartbeats 0 in
theorem laws_toOp_t (w0 : World) (x0 : S_Op) (r : S_Op) (H : laws_toOp.f x0 = some r) :
    Calls Try.prog 14 #[.agg #[.int .i64 x0.Kind, .int .i64 x0.Key, .int .i64 x0.Value]] w0 (Ret (fun v w => v = .agg #[.int .i64 r.Kind, .int .i64 r.Key, .int .i64 r.Value] ∧ Sat [] w0 w [] [])) := by
  have hs : Sat [] w0 w0 [] [] := Sat.init w0 [] [] (by simp) (by simp) List.nodup_nil (by simp [blks])
  unfold laws_toOp.f at H
  refine enter Try.func14 rfl Try.ntmps14 rfl fun a hk => ?_
  apply wp_seq_k; intro K1 hK1
  apply wp_region_lit
  refine sbx 1 hs rfl hk rfl rfl rfl rfl fun b2 w a hk hs => ?_
  refine salx 2 hs rfl hk rfl rfl ze31 rfl fun b3 w a hk hs => ?_
  show wpList _ _ _ [] _ _
  refine wpList_nil ?_
  refine hK1 _ _ ?_
  apply wp_seq_k; intro K4 hK4
  apply wp_region_lit
  refine salx 3 hs rfl hk rfl rfl ze31 rfl fun b5 w a hk hs => ?_
  show wpList _ _ _ [] _ _
  refine wpList_nil ?_
  refine hK4 _ _ ?_
  apply wp_seq_k; intro K6 hK6
  apply wp_region_lit
  refine sf ⟨b2, 0, none⟩ rfl hk rfl rfl rfl fd24_0 rfl fun a hk => ?_
  refine sl rfl hk rfl rfl rfl ag3 (box_cell hs (k := 1) rfl rfl) fun a hk => ?_
  refine sf ⟨b5, 0, none⟩ rfl hk rfl rfl rfl fd31_0 rfl fun a hk => ?_
  refine ssx (cs' := #[.int .i64 x0.Kind, .int .i64 0, .int .i64 0]) 3 hs rfl rfl hk rfl rfl rfl rfl sz3 rfl rfl rfl rfl fun w a hk hs => ?_
  show wpList _ _ _ [] _ _
  refine wpList_nil ?_
  refine hK6 _ _ ?_
  apply wp_seq_k; intro K7 hK7
  apply wp_region_lit
  refine sf ⟨b2, 1, none⟩ rfl hk rfl rfl rfl fd24_1 rfl fun a hk => ?_
  refine sl rfl hk rfl rfl rfl ag3 (box_cell hs (k := 1) rfl rfl) fun a hk => ?_
  refine sf ⟨b5, 1, none⟩ rfl hk rfl rfl rfl fd31_1 rfl fun a hk => ?_
  refine ssx (cs' := #[.int .i64 x0.Kind, .int .i64 x0.Key, .int .i64 0]) 3 hs rfl rfl hk rfl rfl rfl rfl sz3 rfl rfl rfl rfl fun w a hk hs => ?_
  show wpList _ _ _ [] _ _
  refine wpList_nil ?_
  refine hK7 _ _ ?_
  apply wp_seq_k; intro K8 hK8
  apply wp_region_lit
  refine sf ⟨b2, 2, none⟩ rfl hk rfl rfl rfl fd24_2 rfl fun a hk => ?_
  refine sl rfl hk rfl rfl rfl ag3 (box_cell hs (k := 1) rfl rfl) fun a hk => ?_
  refine sf ⟨b5, 2, none⟩ rfl hk rfl rfl rfl fd31_2 rfl fun a hk => ?_
  refine ssx (cs' := #[.int .i64 x0.Kind, .int .i64 x0.Key, .int .i64 x0.Value]) 3 hs rfl rfl hk rfl rfl rfl rfl sz3 rfl rfl rfl rfl fun w a hk hs => ?_
  show wpList _ _ _ [] _ _
  refine wpList_nil ?_
  refine hK8 _ _ ?_
  apply wp_seq_k; intro K9 hK9
  apply wp_region_lit
  refine sln [.int .i64 x0.Kind, .int .i64 x0.Key, .int .i64 x0.Value] rfl hk rfl rfl rfl ag31 sz31 (box_cells hs (k := 3) rfl) fun a hk => ?_
  refine ssw 2 hs rfl rfl hk rfl rfl rfl rfl sz31 (by simp [Value.oneCell']) rfl fun w a hk hs => ?_
  show wpList _ _ _ [] _ _
  refine wpList_nil ?_
  refine hK9 _ _ ?_
  refine wp_ret ?_
  obtain rfl := Option.some.inj H
  exact fin hk _ [(.agg #[.int .i64 x0.Kind, .int .i64 x0.Key, .int .i64 x0.Value])] rfl ⟨⟨_, rfl, run_loadN ag31 sz31 (box_cells hs (k := 2) rfl)⟩, trivial⟩ ⟨rfl, (hs.pick [] rfl).dnil⟩

noncomputable def laws_toOpS.s0 (l0 : List S_Op) (u12 : List S_Op) (u16 : Int) : Option (((List S_Op) × Int) ⊕ Ex ((List S_Op)) ((List S_Op))) :=
  (bif (decide (u16 < (l0.length : Int))) then (if 0 ≤ u16 ∧ u16 < (l0.length : Int) then ((laws_toOp.f (l0.getD u16.toNat z_Op)).bind fun y37 => (if 0 ≤ u16 ∧ u16 < ((((l0.length : Int)).toNat) : Int) then (some (.inl ((u12.set u16.toNat y37), (w64 (u16 + 1))))) else none)) else none) else (some (.inr (.out u12))))
noncomputable def laws_toOpS.f (l0 : List S_Op) : Option ((List S_Op)) :=
  (if 0 ≤ (l0.length : Int) ∧ (l0.length : Int) ≤ 1073741824 then ((loopO (fun s => laws_toOpS.s0 l0 s.1 s.2) ((List.replicate ((l0.length : Int)).toNat z_Op), 0)).bind fun o => match o with | .out u17 => (some u17) | .ret r => (some r)) else none)
set_option maxRecDepth 100000 in
set_option maxHeartbeats 0 in
theorem laws_toOpS_t (w0 : World) (A0_ : Option Addr) (p0_ : Nat) (l0 : List S_Op) (k0_ : Chunk) (v0_ : View L_Op A0_ p0_ l0 k0_) (w0_ : Has w0 k0_) (r : (List S_Op)) (H : laws_toOpS.f l0 = some r) :
    Calls Try.prog 74 #[.slice A0_ l0.length p0_] w0 (Ret (fun v w => ∃ (A0 : Option Addr) (p0 : Nat) (k0 : Chunk), v = .slice A0 r.length p0 ∧ Own L_Op 31 A0 p0 r k0 ∧ Sat [] w0 w [] [(0, k0)])) := by
  have hs : Sat [] w0 w0 [(1, k0_)] [] := Sat.init w0 [(1, k0_)] [] (by simp only [List.mem_cons, List.not_mem_nil, or_false]; rintro x (rfl) <;> assumption) (by simp) List.nodup_nil (by simp [blks])
  unfold laws_toOpS.f at H
  refine enter Try.func74 rfl Try.ntmps74 rfl fun a hk => ?_
  apply wp_seq_k; intro K1 hK1
  apply wp_region_lit
  refine sa _ rfl hk rfl rfl rfl fun a hk => ?_
  show wpList _ _ _ [] _ _
  refine wpList_nil ?_
  refine hK1 _ _ ?_
  apply wp_seq_k; intro K2 hK2
  apply wp_region_lit
  refine sm _ rfl hk rfl rfl rfl fun a hk => ?_
  refine sle rfl hk rfl rfl rfl un38 fun a hk => ?_
  rcases ite_some H with ⟨c3, H⟩ | ⟨_, H⟩
  rotate_left
  · cases H
  refine smk 2 L_Op hs rfl hk rfl rfl rfl rfl un46 mk31 lz31 rfl rfl c3.1 c3.2 fun b4 k5 w a hk o6 hs => ?_
  have lh7 : (List.replicate ((l0.length : Int)).toNat z_Op).length = ((l0.length : Int)).toNat := List.length_replicate
  refine sa _ rfl hk rfl rfl rfl fun a hk => ?_
  show wpList _ _ _ [] _ _
  refine wpList_nil ?_
  refine hK2 _ _ ?_
  apply wp_seq_k; intro K8 hK8
  apply wp_seq_k; intro K9 hK9
  apply wp_region_lit
  refine sa _ rfl hk rfl rfl rfl fun a hk => ?_
  show wpList _ _ _ [] _ _
  refine wpList_nil ?_
  refine hK9 _ _ ?_
  obtain ⟨o21, h22, HL23⟩ := bind_some H
  clear H
  obtain ⟨R24, hR24⟩ : ∃ R : Act → World → Prop, R = fun a w => ∃ (u17 : List S_Op) (k18 : Chunk), o21 = .out u17 ∧ Kn [(3, (.slice (some ⟨b4, 0, none⟩) (((l0.length : Int)).toNat) (((l0.length : Int)).toNat)))] 23 a ∧ Sat [] w0 w [(1, k0_)] [(2, k18)] ∧ Own L_Op 31 (some ⟨b4, 0, none⟩) (((l0.length : Int)).toNat) u17 k18 ∧ u17.length = (((l0.length : Int)).toNat) := ⟨_, rfl⟩
  refine wp_cutq R24 ?_ ?_
  · refine wp_block ?_
    obtain ⟨fu26, h22⟩ := loopO_some h22
    obtain ⟨I25, hI25⟩ : ∃ I : Nat → Act → World → Prop, I = fun fu a w => ∃ (u12 : List S_Op) (u16 : Int) (k13 : Chunk), loopN (fun s => laws_toOpS.s0 l0 s.1 s.2) fu (u12, u16) = some o21 ∧ Kn [(0, (.slice A0_ l0.length p0_)), (3, (.slice (some ⟨b4, 0, none⟩) (((l0.length : Int)).toNat) (((l0.length : Int)).toNat))), (4, (.int .i64 u16))] 23 a ∧ Sat [] w0 w [(1, k0_)] [(2, k13)] ∧ Own L_Op 31 (some ⟨b4, 0, none⟩) (((l0.length : Int)).toNat) u12 k13 ∧ u12.length = (((l0.length : Int)).toNat) := ⟨_, rfl⟩
    refine wp_loop_ghost I25 fu26 ?_ ?_
    · rw [hI25]
      exact ⟨(List.replicate ((l0.length : Int)).toNat z_Op), 0, _, h22, (hk.c 0 rfl (hk.c 3 rfl (hk.c 4 rfl hk.k))), (hs.pick [(2, 2)] rfl), o6, lh7⟩
    · clear h22 hk hs
      intro fu26 a w hI0
      rw [hI25] at hI0
      obtain ⟨u12, u16, k13, hi, hk, hs, o14, lh15⟩ := hI0
      obtain ⟨x27, H, h28⟩ := loop_round hi
      try dsimp only at H
      unfold laws_toOpS.s0 at H
      apply wp_seq_k; intro K29 hK29
      apply wp_seq_k; intro K30 hK30
      apply wp_region_lit
      refine sm _ rfl hk rfl rfl rfl fun a hk => ?_
      refine sm _ rfl hk rfl rfl rfl fun a hk => ?_
      refine sle rfl hk rfl rfl rfl un38 fun a hk => ?_
      refine sv (.bool (decide (u16 < (l0.length : Int)))) hk rfl rfl rfl fun a hk => ?_
      show wpList _ _ _ [] _ _
      refine wpList_nil ?_
      refine hK30 _ _ ?_
      rcases cond_some H with ⟨c31, H⟩ | ⟨c31, H⟩
      · have hk := hk.lit 11 c31 rfl
        refine cnd_true hk rfl rfl ?_
        refine wp_skip ?_
        refine hK29 _ _ ?_
        apply wp_seq_k; intro K32 hK32
        refine wp_block ?_
        apply wp_region_lit
        refine sm _ rfl hk rfl rfl rfl fun a hk => ?_
        refine sm _ rfl hk rfl rfl rfl fun a hk => ?_
        refine sm _ rfl hk rfl rfl rfl fun a hk => ?_
        refine sm _ rfl hk rfl rfl rfl fun a hk => ?_
        rcases ite_some H with ⟨c33, H⟩ | ⟨_, H⟩
        rotate_left
        · cases H
        obtain ⟨b34, q35, hAc33⟩ := (v0_).some_ u16 c33.1 c33.2
        refine si rfl hk rfl rfl rfl rfl un38 sz24 c33.1 c33.2 hAc33 fun a hk => ?_
        obtain ⟨_, rfl, e36⟩ := (v0_).at_ z_Op u16 c33.1 c33.2
        refine sln [.int .i64 ((l0.getD u16.toNat z_Op).Kind), .int .i64 ((l0.getD u16.toNat z_Op).Key), .int .i64 ((l0.getD u16.toNat z_Op).Value)] rfl hk rfl rfl rfl ag24 sz24 (cells_at e36 (hs.hasD (k := 1) rfl)) fun a hk => ?_
        obtain ⟨y37, h38, H⟩ := bind_some H
        refine sc rfl en14 hk rfl rfl rfl (laws_toOp_t _ (l0.getD u16.toNat z_Op) _ h38) ?_
        rintro _ w ⟨rfl, hG⟩ a hk
        have hs := hs.call0 hG
        rcases ite_some H with ⟨c39, H⟩ | ⟨_, H⟩
        rotate_left
        · cases H
        obtain ⟨b40, q41, hAc39⟩ := (o14.view).some_ u16 c39.1 (by rw [lh15]; exact c39.2)
        refine si rfl hk rfl rfl rfl rfl un46 sz31 c39.1 c39.2 hAc39 fun a hk => ?_
        refine so (j := 0) 2 z_Op y37 hs rfl o14 c39.1 (by rw [lh15]; exact c39.2) rfl hk rfl rfl rfl rfl rfl sz31 (by simp [Value.cells, Value.oneCell']) (Nat.le_of_ble_eq_true rfl) (fun _ _ h => ⟨by rw [h.1]; rfl, h.2⟩) fun k42 w a hk o43 hs => ?_
        have lh44 : (u12.set u16.toNat y37).length = (((l0.length : Int)).toNat) := by rw [List.length_set]; exact lh15
        show wpList _ _ _ [] _ _
        refine wpList_nil ?_
        refine hK32 _ _ ?_
        apply wp_region_lit
        refine sm _ rfl hk rfl rfl rfl fun a hk => ?_
        refine sv (.int .i64 (w64 (u16 + 1))) hk rfl rfl rfl fun a hk => ?_
        refine sa _ rfl hk rfl rfl rfl fun a hk => ?_
        show wpList _ _ _ [] _ _
        refine wpList_nil ?_
        obtain rfl := Option.some.inj H
        obtain ⟨m45, hmm45, h28⟩ := h28
        show ∃ n', n' < _ ∧ I25 n' _ _
        refine ⟨m45, hmm45, ?_⟩
        rw [hI25]
        exact ⟨(u12.set u16.toNat y37), (w64 (u16 + 1)), _, h28, (hk.c 0 rfl (hk.c 3 rfl (hk.c 4 rfl hk.k))), (hs.pick [(2, 2)] rfl), o43, lh44⟩
      · have hk := hk.lit 11 c31 rfl
        refine cnd_false hk rfl rfl ?_
        refine wp_exit ?_
        obtain rfl := Option.some.inj H
        show R24 _ _
        rw [hR24]
        exact ⟨u12, _, h28.symm, (hk.c 3 rfl hk.k), (hs.pick [(2, 2)] rfl), o14, lh15⟩
  · intro a w hR0
    rw [hR24] at hR0
    obtain ⟨u17, k18, rfl, hk, hs, o19, lh20⟩ := hR0
    have H := HL23
    try dsimp only at H
    refine hK8 _ _ ?_
    apply wp_seq_k; intro K46 hK46
    apply wp_region_lit
    refine sm _ rfl hk rfl rfl rfl fun a hk => ?_
    refine sa _ rfl hk rfl rfl rfl fun a hk => ?_
    show wpList _ _ _ [] _ _
    refine wpList_nil ?_
    refine hK46 _ _ ?_
    refine wp_ret ?_
    obtain rfl := Option.some.inj H
    exact fin hk _ [(.slice (some ⟨b4, 0, none⟩) (((l0.length : Int)).toNat) (((l0.length : Int)).toNat))] rfl ⟨rfl, trivial⟩ ⟨(some ⟨b4, 0, none⟩), (((l0.length : Int)).toNat), _, (by first | (rw [lh20]; done) | (rw [lh20]; rfl)), o19, (hs.pick [(0, 2)] rfl).dnil⟩

noncomputable def laws_toTxn.f (x0 : S_Txn) : Option (S_Txn) :=
  ((laws_toOpS.f x0.Ops).bind fun y7 => (some (⟨y7⟩ : S_Txn)))
set_option maxRecDepth 100000 in
set_option maxHeartbeats 0 in
theorem laws_toTxn_t (w0 : World) (x0 : S_Txn) (A0_0 : Option Addr) (p0_0 : Nat) (k0_0 : Chunk) (v0_0 : View L_Op A0_0 p0_0 x0.Ops k0_0) (w0_0 : Has w0 k0_0) (r : S_Txn) (H : laws_toTxn.f x0 = some r) :
    Calls Try.prog 24 #[.agg #[.slice A0_0 x0.Ops.length p0_0]] w0 (Ret (fun v w => ∃ (A0 : Option Addr) (p0 : Nat) (k0 : Chunk), v = .agg #[.slice A0 r.Ops.length p0] ∧ Own L_Op 31 A0 p0 r.Ops k0 ∧ Sat [] w0 w [] [(0, k0)])) := by
  have hs : Sat [] w0 w0 [(1, k0_0)] [] := Sat.init w0 [(1, k0_0)] [] (by simp only [List.mem_cons, List.not_mem_nil, or_false]; rintro x (rfl) <;> assumption) (by simp) List.nodup_nil (by simp [blks])
  unfold laws_toTxn.f at H
  refine enter Try.func24 rfl Try.ntmps24 rfl fun a hk => ?_
  apply wp_seq_k; intro K1 hK1
  apply wp_region_lit
  refine sbx 2 hs rfl hk rfl rfl rfl rfl fun b2 w a hk hs => ?_
  refine salx 3 hs rfl hk rfl rfl ze48 rfl fun b3 w a hk hs => ?_
  show wpList _ _ _ [] _ _
  refine wpList_nil ?_
  refine hK1 _ _ ?_
  apply wp_seq_k; intro K4 hK4
  apply wp_region_lit
  refine salx 4 hs rfl hk rfl rfl ze48 rfl fun b5 w a hk hs => ?_
  show wpList _ _ _ [] _ _
  refine wpList_nil ?_
  refine hK4 _ _ ?_
  apply wp_seq_k; intro K6 hK6
  apply wp_region_lit
  refine sf ⟨b2, 0, none⟩ rfl hk rfl rfl rfl fd40_0 rfl fun a hk => ?_
  refine sl rfl hk rfl rfl rfl ag38 (box_cell hs (k := 2) rfl rfl) fun a hk => ?_
  obtain ⟨y7, h8, H⟩ := bind_some H
  refine sc rfl en74 hk rfl rfl rfl (laws_toOpS_t _ A0_0 p0_0 x0.Ops _ v0_0 (hs.hasD (k := 1) rfl) _ h8) ?_
  rintro _ w ⟨A9, p10, k11, rfl, o12, hG⟩ a hk
  have hs := hs.call0k hG [5] rfl
  refine sf ⟨b5, 0, none⟩ rfl hk rfl rfl rfl fd48_0 rfl fun a hk => ?_
  refine ssx (cs' := #[.slice A9 y7.length p10]) 4 hs rfl rfl hk rfl rfl rfl rfl sz46 rfl rfl rfl rfl fun w a hk hs => ?_
  show wpList _ _ _ [] _ _
  refine wpList_nil ?_
  refine hK6 _ _ ?_
  apply wp_seq_k; intro K13 hK13
  apply wp_region_lit
  refine sln [.slice A9 y7.length p10] rfl hk rfl rfl rfl ag48 sz48 (box_cells hs (k := 4) rfl) fun a hk => ?_
  refine ssw 3 hs rfl rfl hk rfl rfl rfl rfl sz48 (by simp [Value.oneCell']) rfl fun w a hk hs => ?_
  show wpList _ _ _ [] _ _
  refine wpList_nil ?_
  refine hK13 _ _ ?_
  refine wp_ret ?_
  obtain rfl := Option.some.inj H
  exact fin hk _ [(.agg #[.slice A9 y7.length p10])] rfl ⟨⟨_, rfl, run_loadN ag48 sz48 (box_cells hs (k := 3) rfl)⟩, trivial⟩ ⟨A9, p10, _, rfl, o12, (hs.pick [(0, 5)] rfl).dnil⟩

noncomputable def impl_within.f (x0 : Int) (x1 : Int) (x2 : Int) : Option (Bool) :=
  (((bif (decide (x1 ≤ x0)) then (some (decide (x0 ≤ x2))) else (some false)) : Option (Bool)).bind fun u4 => (some u4))
set_option maxRecDepth 100000 in
set_option maxHeartbeats 0 in
theorem impl_within_t (w0 : World) (x0 : Int) (x1 : Int) (x2 : Int) (r : Bool) (H : impl_within.f x0 x1 x2 = some r) :
    Calls Try.prog 102 #[.int .i64 x0, .int .i64 x1, .int .i64 x2] w0 (Ret (fun v w => v = .bool r ∧ Sat [] w0 w [] [])) := by
  have hs : Sat [] w0 w0 [] [] := Sat.init w0 [] [] (by simp) (by simp) List.nodup_nil (by simp [blks])
  unfold impl_within.f at H
  refine enter Try.func102 rfl Try.ntmps102 rfl fun a hk => ?_
  apply wp_seq_k; intro K1 hK1
  apply wp_region_lit
  refine sa _ rfl hk rfl rfl rfl fun a hk => ?_
  show wpList _ _ _ [] _ _
  refine wpList_nil ?_
  refine hK1 _ _ ?_
  apply wp_seq_k; intro K2 hK2
  obtain ⟨o5, h6, HL7⟩ := bind_some H
  clear H
  obtain ⟨R8, hR8⟩ : ∃ R : Act → World → Prop, R = fun a w => ∃ (u4 : Bool), u4 = o5 ∧ Kn [(6, (.bool u4))] 15 a ∧ Sat [] w0 w [] [] := ⟨_, rfl⟩
  refine wp_cutq R8 ?_ ?_
  · have H := h6
    apply wp_region_lit
    refine sm _ rfl hk rfl rfl rfl fun a hk => ?_
    refine sm _ rfl hk rfl rfl rfl fun a hk => ?_
    refine sv (.bool (decide (x1 ≤ x0))) hk rfl rfl rfl fun a hk => ?_
    refine sm _ rfl hk rfl rfl rfl fun a hk => ?_
    rcases cond_some H with ⟨c9, H⟩ | ⟨c9, H⟩
    · have hk := hk.lit 10 c9 rfl
      refine sm _ rfl hk rfl rfl rfl fun a hk => ?_
      refine sm _ rfl hk rfl rfl rfl fun a hk => ?_
      refine sv (.bool (decide (x0 ≤ x2))) hk rfl rfl rfl fun a hk => ?_
      refine sv (.bool (decide (x0 ≤ x2))) hk rfl rfl rfl fun a hk => ?_
      refine sa _ rfl hk rfl rfl rfl fun a hk => ?_
      show wpList _ _ _ [] _ _
      refine wpList_nil ?_
      obtain rfl := Option.some.inj H
      show R8 _ _
      rw [hR8]
      exact ⟨(decide (x0 ≤ x2)), rfl, (hk.c 6 rfl hk.k), (hs.pick [] rfl)⟩
    · have hk := hk.lit 10 c9 rfl
      refine sk hk rfl rfl rfl fun a hk => ?_
      refine sk hk rfl rfl rfl fun a hk => ?_
      refine sk hk rfl rfl rfl fun a hk => ?_
      refine sv (.bool false) hk rfl rfl rfl fun a hk => ?_
      refine sa _ rfl hk rfl rfl rfl fun a hk => ?_
      show wpList _ _ _ [] _ _
      refine wpList_nil ?_
      obtain rfl := Option.some.inj H
      show R8 _ _
      rw [hR8]
      exact ⟨false, rfl, (hk.c 6 rfl hk.k), (hs.pick [] rfl)⟩
  · intro a w hR0
    rw [hR8] at hR0
    obtain ⟨u4, rfl, hk, hs⟩ := hR0
    have H := HL7
    try dsimp only at H
    refine hK2 _ _ ?_
    refine wp_ret ?_
    obtain rfl := Option.some.inj H
    exact fin hk _ [(.bool u4)] rfl ⟨rfl, trivial⟩ ⟨rfl, (hs.pick [] rfl).dnil⟩

noncomputable def impl_isKey.f (x0 : Int) : Option (Bool) :=
  ((impl_within.f x0 1 9999).bind fun y3 => (some y3))
set_option maxRecDepth 100000 in
set_option maxHeartbeats 0 in
theorem impl_isKey_t (w0 : World) (x0 : Int) (r : Bool) (H : impl_isKey.f x0 = some r) :
    Calls Try.prog 81 #[.int .i64 x0] w0 (Ret (fun v w => v = .bool r ∧ Sat [] w0 w [] [])) := by
  have hs : Sat [] w0 w0 [] [] := Sat.init w0 [] [] (by simp) (by simp) List.nodup_nil (by simp [blks])
  unfold impl_isKey.f at H
  refine enter Try.func81 rfl Try.ntmps81 rfl fun a hk => ?_
  apply wp_seq_k; intro K1 hK1
  apply wp_region_lit
  refine sa _ rfl hk rfl rfl rfl fun a hk => ?_
  show wpList _ _ _ [] _ _
  refine wpList_nil ?_
  refine hK1 _ _ ?_
  apply wp_seq_k; intro K2 hK2
  apply wp_region_lit
  refine sm _ rfl hk rfl rfl rfl fun a hk => ?_
  obtain ⟨y3, h4, H⟩ := bind_some H
  refine sc rfl en102 hk rfl rfl rfl (impl_within_t _ x0 1 9999 _ h4) ?_
  rintro _ w ⟨rfl, hG⟩ a hk
  have hs := hs.call0 hG
  refine sa _ rfl hk rfl rfl rfl fun a hk => ?_
  show wpList _ _ _ [] _ _
  refine wpList_nil ?_
  refine hK2 _ _ ?_
  refine wp_ret ?_
  obtain rfl := Option.some.inj H
  exact fin hk _ [(.bool y3)] rfl ⟨rfl, trivial⟩ ⟨rfl, (hs.pick [] rfl).dnil⟩

noncomputable def impl_isValue.f (x0 : Int) : Option (Bool) :=
  ((impl_within.f x0 0 999999).bind fun y3 => (some y3))
set_option maxRecDepth 100000 in
set_option maxHeartbeats 0 in
theorem impl_isValue_t (w0 : World) (x0 : Int) (r : Bool) (H : impl_isValue.f x0 = some r) :
    Calls Try.prog 83 #[.int .i64 x0] w0 (Ret (fun v w => v = .bool r ∧ Sat [] w0 w [] [])) := by
  have hs : Sat [] w0 w0 [] [] := Sat.init w0 [] [] (by simp) (by simp) List.nodup_nil (by simp [blks])
  unfold impl_isValue.f at H
  refine enter Try.func83 rfl Try.ntmps83 rfl fun a hk => ?_
  apply wp_seq_k; intro K1 hK1
  apply wp_region_lit
  refine sa _ rfl hk rfl rfl rfl fun a hk => ?_
  show wpList _ _ _ [] _ _
  refine wpList_nil ?_
  refine hK1 _ _ ?_
  apply wp_seq_k; intro K2 hK2
  apply wp_region_lit
  refine sm _ rfl hk rfl rfl rfl fun a hk => ?_
  obtain ⟨y3, h4, H⟩ := bind_some H
  refine sc rfl en102 hk rfl rfl rfl (impl_within_t _ x0 0 999999 _ h4) ?_
  rintro _ w ⟨rfl, hG⟩ a hk
  have hs := hs.call0 hG
  refine sa _ rfl hk rfl rfl rfl fun a hk => ?_
  show wpList _ _ _ [] _ _
  refine wpList_nil ?_
  refine hK2 _ _ ?_
  refine wp_ret ?_
  obtain rfl := Option.some.inj H
  exact fin hk _ [(.bool y3)] rfl ⟨rfl, trivial⟩ ⟨rfl, (hs.pick [] rfl).dnil⟩

end Go.Proofs.Ytlbbkehdfgjneaa
