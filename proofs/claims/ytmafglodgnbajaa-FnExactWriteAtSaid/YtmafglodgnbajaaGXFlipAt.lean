/- The functions that FnExactFlipAt reaches: for each a model and the walk that shows that the Go code comes to it. -/
import Derived.Test.YtmafglodgnbajaaGXActOKn1
namespace Go.Proofs.Ytmafglodgnbajaa
open Go Go.Z Go.Proofs Go.MuLone Go.ChangeShapes Go.WideShapes Go.ChangeAt Go.RowKit
set_option linter.unusedVariables false
set_option linter.unusedSimpArgs false
noncomputable def spec_l05Own.f (x0 : S_Device) : Option (S_Device) :=
  (if ([] : List ByteArray).length + x0.Sure.length ≤ 1073741824 then (if ([] : List S_Io).length + x0.Unsure.length ≤ 1073741824 then (some (⟨(([] : List ByteArray) ++ x0.Sure), (([] : List S_Io) ++ x0.Unsure)⟩ : S_Device)) else none) else none)
set_option maxRecDepth 100000 in
set_option maxHeartbeats 0 in
theorem spec_l05Own_t (w0 : World) (x0 : S_Device) (A0_0 : Option Addr) (p0_0 : Nat) (k0_0 : Chunk) (v0_0 : View Lay.str A0_0 p0_0 x0.Sure k0_0) (w0_0 : Has w0 k0_0) (A0_1 : Option Addr) (p0_1 : Nat) (k0_1 : Chunk) (v0_1 : View L_Io A0_1 p0_1 x0.Unsure k0_1) (w0_1 : Has w0 k0_1) (r : S_Device) (H : spec_l05Own.f x0 = some r) :
    Calls Try.prog 75 #[.agg #[.slice A0_0 x0.Sure.length p0_0, .slice A0_1 x0.Unsure.length p0_1]] w0 (Ret (fun v w => ∃ (A0 : Option Addr) (p0 : Nat) (k0 : Chunk), ∃ (A1 : Option Addr) (p1 : Nat) (k1 : Chunk), v = .agg #[.slice A0 r.Sure.length p0, .slice A1 r.Unsure.length p1] ∧ Own Lay.str 9 A0 p0 r.Sure k0 ∧ Own L_Io 114 A1 p1 r.Unsure k1 ∧ Sat [] w0 w [] [(0, k0), (1, k1)])) := by
  have hs : Sat [] w0 w0 [(1, k0_0), (2, k0_1)] [] := Sat.init w0 [(1, k0_0), (2, k0_1)] [] (by simp only [List.mem_cons, List.not_mem_nil, or_false]; rintro x (rfl | rfl) <;> assumption) (by simp) List.nodup_nil (by simp [blks])
  unfold spec_l05Own.f at H
  refine enter Try.func75 rfl Try.ntmps75 rfl fun a hk => ?_
  apply wp_seq_k; intro K1 hK1
  apply wp_region_lit
  refine sbx 3 hs rfl hk rfl rfl rfl rfl fun b2 w a hk hs => ?_
  refine salx 4 hs rfl hk rfl rfl ze35 rfl fun b3 w a hk hs => ?_
  show wpList _ _ _ [] _ _
  refine wpList_nil ?_
  refine hK1 _ _ ?_
  apply wp_seq_k; intro K4 hK4
  rcases ite_some H with ⟨c_r5_3_1, H⟩ | ⟨_, H⟩
  rotate_left
  · cases H
  rcases ite_some H with ⟨c_r5_7_1, H⟩ | ⟨_, H⟩
  rotate_left
  · cases H
  obtain ⟨R6, hR6⟩ : ∃ R : Act → World → Prop, R = fun a w => ∃ (A_r5_3_2 : Option Addr) (p_r5_3_3 : Nat) (A_r5_7_2 : Option Addr) (p_r5_7_3 : Nat) (k_r5_3_4 : Chunk) (k_r5_7_4 : Chunk), Kn [(2, (.pointer (some ⟨b3, 0, none⟩)))] 12 a ∧ Sat [] w0 w [(1, k0_0), (2, k0_1)] [(4, [(b3, .cells #[.slice A_r5_3_2 (([] : List ByteArray) ++ x0.Sure).length p_r5_3_3, .slice A_r5_7_2 (([] : List S_Io) ++ x0.Unsure).length p_r5_7_3] 35 (0, 0))]), (105001, k_r5_3_4), (105081, k_r5_7_4)] ∧ Own Lay.str 9 A_r5_3_2 p_r5_3_3 (([] : List ByteArray) ++ x0.Sure) k_r5_3_4 ∧ Own L_Io 114 A_r5_7_2 p_r5_7_3 (([] : List S_Io) ++ x0.Unsure) k_r5_7_4 := ⟨_, rfl⟩
  refine wp_cutq R6 ?_ ?_
  · skip
    refine wp_region_tree (.q 1 (.q 2 (.q 5 (.q 6 (.alt 0 (.alt 3 (.alt 4 (.alt 7 (.alt 8 (.alt 9 .done .stop) .stop) .stop) .stop) (.alt 4 (.alt 3 (.alt 7 (.alt 8 (.alt 9 .done .stop) .stop) .stop) .stop) .stop)) (.alt 4 (.alt 0 (.alt 3 (.alt 7 (.alt 8 (.alt 9 .done .stop) .stop) .stop) .stop) .stop) .stop)))))) mo (by kernel_rfl) (hs.pick [(3, 3)] rfl) fun _ => ?_
    have hs := hs.drew
    refine tqst (.pointer (some ⟨b2, 0, none⟩)) hk rfl rfl rfl rfl (fun w hs => sf ⟨b2, 0, none⟩ rfl hk rfl rfl rfl fd35_0 rfl fun a hk => qe hk) fun a hk => ?_
    refine tqst (.slice A0_0 x0.Sure.length p0_0) hk rfl rfl rfl rfl (fun w hs => sl rfl hk rfl rfl rfl ag24 (box_cell hs (k := 3) rfl rfl) fun a hk => qe hk) fun a hk => ?_
    refine tqst (.pointer (some ⟨b2, 1, none⟩)) hk rfl rfl rfl rfl (fun w hs => sf ⟨b2, 1, none⟩ rfl hk rfl rfl rfl fd35_1 rfl fun a hk => qe hk) fun a hk => ?_
    refine tqst (.slice A0_1 x0.Unsure.length p0_1) hk rfl rfl rfl rfl (fun w hs => sl rfl hk rfl rfl rfl ag33 (box_cell hs (k := 3) rfl rfl) fun a hk => qe hk) fun a hk => ?_
    refine tsst hk rfl rfl (fun K_r5_0 hK_r5_0 w hF => ?_) ?_
    · skip
      have hs := hs.f hF
      refine sbs0 105001 Lay.str hs rfl hk rfl rfl un24 sz9 fun b_r5_0_1 k_r5_0_2 w a hk o_r5_0_3 hs => ?_
      refine se (hs.pick [(3, 3)] rfl) hk (hK_r5_0 _ _ ?_)
      refine tsst hk rfl rfl (fun K_r5_3 hK_r5_3 w hF => ?_) ?_
      · skip
        have hs := hs.f hF
        refine sap 105001 (xs := ([] : List ByteArray)) (ys := x0.Sure) (flat_flat : (Lay.str).Flat) hs rfl o_r5_0_3 v0_0 (hs.hasD (k := 1) rfl) rfl hk rfl rfl rfl rfl rfl rfl un24 mk9 rfl rfl rfl c_r5_3_1 fun A_r5_3_2 p_r5_3_3 k_r5_3_4 w a hk o_r5_3_5 hs => ?_
        refine se (hs.pick [(3, 3)] rfl) hk (hK_r5_3 _ _ ?_)
        refine tsst hk rfl rfl (fun K_r5_4 hK_r5_4 w hF => ?_) wt_stop
        have hs := hs.f hF
        refine sbs0 105081 L_Io hs rfl hk rfl rfl un33 sz114 fun b_r5_4_1 k_r5_4_2 w a hk o_r5_4_3 hs => ?_
        refine se (hs.pick [(3, 3)] rfl) hk (hK_r5_4 _ _ ?_)
        refine tsst hk rfl rfl (fun K_r5_7 hK_r5_7 w hF => ?_) wt_stop
        have hs := hs.f hF
        refine sap 105081 (xs := ([] : List S_Io)) (ys := x0.Unsure) (flat_flat : (L_Io).Flat) hs rfl o_r5_4_3 v0_1 (hs.hasD (k := 2) rfl) rfl hk rfl rfl rfl rfl rfl rfl un33 mk114 rfl rfl rfl c_r5_7_1 fun A_r5_7_2 p_r5_7_3 k_r5_7_4 w a hk o_r5_7_5 hs => ?_
        refine se (hs.pick [(3, 3)] rfl) hk (hK_r5_7 _ _ ?_)
        refine tsst hk rfl rfl (fun K_r5_8 hK_r5_8 w hF => ?_) wt_stop
        have hs := hs.f hF
        refine sbd (pv := [(0, (.slice A_r5_3_2 (([] : List ByteArray) ++ x0.Sure).length p_r5_3_3)), (1, (.slice A_r5_7_2 (([] : List S_Io) ++ x0.Unsure).length p_r5_7_3))]) rfl hk rfl rfl rfl (bd35_0 A_r5_3_2 ((([] : List ByteArray) ++ x0.Sure).length) p_r5_3_3 A_r5_7_2 ((([] : List S_Io) ++ x0.Unsure).length) p_r5_7_3) fun a hk => ?_
        refine se (hs.pick [(3, 3)] rfl) hk (hK_r5_8 _ _ ?_)
        refine tsst hk rfl rfl (fun K_r5_9 hK_r5_9 w hF => ?_) wt_stop
        have hs := hs.f hF
        refine ssw 4 hs rfl rfl hk rfl rfl rfl rfl sz35 (by simp [Value.oneCell']) rfl fun w a hk hs => ?_
        refine se (hs.pick [(3, 3)] rfl) hk (hK_r5_9 _ _ ?_)
        refine wtl_nil fun w hF _ => ?_
        have hs := hs.f hF
        show R6 _ _
        rw [hR6]
        exact ⟨A_r5_3_2, p_r5_3_3, A_r5_7_2, p_r5_7_3, k_r5_3_4, k_r5_7_4, (hk.c 2 rfl hk.k), (hs.pick [(4, 4), (105001, 105001), (105081, 105081)] rfl), o_r5_3_5, o_r5_7_5⟩
      refine tsst hk rfl rfl (fun K_r5_4 hK_r5_4 w hF => ?_) wt_stop
      have hs := hs.f hF
      refine sbs0 105081 L_Io hs rfl hk rfl rfl un33 sz114 fun b_r5_4_1 k_r5_4_2 w a hk o_r5_4_3 hs => ?_
      refine se (hs.pick [(3, 3)] rfl) hk (hK_r5_4 _ _ ?_)
      refine tsst hk rfl rfl (fun K_r5_3 hK_r5_3 w hF => ?_) wt_stop
      have hs := hs.f hF
      refine sap 105001 (xs := ([] : List ByteArray)) (ys := x0.Sure) (flat_flat : (Lay.str).Flat) hs rfl o_r5_0_3 v0_0 (hs.hasD (k := 1) rfl) rfl hk rfl rfl rfl rfl rfl rfl un24 mk9 rfl rfl rfl c_r5_3_1 fun A_r5_3_2 p_r5_3_3 k_r5_3_4 w a hk o_r5_3_5 hs => ?_
      refine se (hs.pick [(3, 3)] rfl) hk (hK_r5_3 _ _ ?_)
      refine tsst hk rfl rfl (fun K_r5_7 hK_r5_7 w hF => ?_) wt_stop
      have hs := hs.f hF
      refine sap 105081 (xs := ([] : List S_Io)) (ys := x0.Unsure) (flat_flat : (L_Io).Flat) hs rfl o_r5_4_3 v0_1 (hs.hasD (k := 2) rfl) rfl hk rfl rfl rfl rfl rfl rfl un33 mk114 rfl rfl rfl c_r5_7_1 fun A_r5_7_2 p_r5_7_3 k_r5_7_4 w a hk o_r5_7_5 hs => ?_
      refine se (hs.pick [(3, 3)] rfl) hk (hK_r5_7 _ _ ?_)
      refine tsst hk rfl rfl (fun K_r5_8 hK_r5_8 w hF => ?_) wt_stop
      have hs := hs.f hF
      refine sbd (pv := [(0, (.slice A_r5_3_2 (([] : List ByteArray) ++ x0.Sure).length p_r5_3_3)), (1, (.slice A_r5_7_2 (([] : List S_Io) ++ x0.Unsure).length p_r5_7_3))]) rfl hk rfl rfl rfl (bd35_0 A_r5_3_2 ((([] : List ByteArray) ++ x0.Sure).length) p_r5_3_3 A_r5_7_2 ((([] : List S_Io) ++ x0.Unsure).length) p_r5_7_3) fun a hk => ?_
      refine se (hs.pick [(3, 3)] rfl) hk (hK_r5_8 _ _ ?_)
      refine tsst hk rfl rfl (fun K_r5_9 hK_r5_9 w hF => ?_) wt_stop
      have hs := hs.f hF
      refine ssw 4 hs rfl rfl hk rfl rfl rfl rfl sz35 (by simp [Value.oneCell']) rfl fun w a hk hs => ?_
      refine se (hs.pick [(3, 3)] rfl) hk (hK_r5_9 _ _ ?_)
      refine wtl_nil fun w hF _ => ?_
      have hs := hs.f hF
      show R6 _ _
      rw [hR6]
      exact ⟨A_r5_3_2, p_r5_3_3, A_r5_7_2, p_r5_7_3, k_r5_3_4, k_r5_7_4, (hk.c 2 rfl hk.k), (hs.pick [(4, 4), (105001, 105001), (105081, 105081)] rfl), o_r5_3_5, o_r5_7_5⟩
    refine tsst hk rfl rfl (fun K_r5_4 hK_r5_4 w hF => ?_) wt_stop
    have hs := hs.f hF
    refine sbs0 105081 L_Io hs rfl hk rfl rfl un33 sz114 fun b_r5_4_1 k_r5_4_2 w a hk o_r5_4_3 hs => ?_
    refine se (hs.pick [(3, 3)] rfl) hk (hK_r5_4 _ _ ?_)
    refine tsst hk rfl rfl (fun K_r5_0 hK_r5_0 w hF => ?_) wt_stop
    have hs := hs.f hF
    refine sbs0 105001 Lay.str hs rfl hk rfl rfl un24 sz9 fun b_r5_0_1 k_r5_0_2 w a hk o_r5_0_3 hs => ?_
    refine se (hs.pick [(3, 3)] rfl) hk (hK_r5_0 _ _ ?_)
    refine tsst hk rfl rfl (fun K_r5_3 hK_r5_3 w hF => ?_) wt_stop
    have hs := hs.f hF
    refine sap 105001 (xs := ([] : List ByteArray)) (ys := x0.Sure) (flat_flat : (Lay.str).Flat) hs rfl o_r5_0_3 v0_0 (hs.hasD (k := 1) rfl) rfl hk rfl rfl rfl rfl rfl rfl un24 mk9 rfl rfl rfl c_r5_3_1 fun A_r5_3_2 p_r5_3_3 k_r5_3_4 w a hk o_r5_3_5 hs => ?_
    refine se (hs.pick [(3, 3)] rfl) hk (hK_r5_3 _ _ ?_)
    refine tsst hk rfl rfl (fun K_r5_7 hK_r5_7 w hF => ?_) wt_stop
    have hs := hs.f hF
    refine sap 105081 (xs := ([] : List S_Io)) (ys := x0.Unsure) (flat_flat : (L_Io).Flat) hs rfl o_r5_4_3 v0_1 (hs.hasD (k := 2) rfl) rfl hk rfl rfl rfl rfl rfl rfl un33 mk114 rfl rfl rfl c_r5_7_1 fun A_r5_7_2 p_r5_7_3 k_r5_7_4 w a hk o_r5_7_5 hs => ?_
    refine se (hs.pick [(3, 3)] rfl) hk (hK_r5_7 _ _ ?_)
    refine tsst hk rfl rfl (fun K_r5_8 hK_r5_8 w hF => ?_) wt_stop
    have hs := hs.f hF
    refine sbd (pv := [(0, (.slice A_r5_3_2 (([] : List ByteArray) ++ x0.Sure).length p_r5_3_3)), (1, (.slice A_r5_7_2 (([] : List S_Io) ++ x0.Unsure).length p_r5_7_3))]) rfl hk rfl rfl rfl (bd35_0 A_r5_3_2 ((([] : List ByteArray) ++ x0.Sure).length) p_r5_3_3 A_r5_7_2 ((([] : List S_Io) ++ x0.Unsure).length) p_r5_7_3) fun a hk => ?_
    refine se (hs.pick [(3, 3)] rfl) hk (hK_r5_8 _ _ ?_)
    refine tsst hk rfl rfl (fun K_r5_9 hK_r5_9 w hF => ?_) wt_stop
    have hs := hs.f hF
    refine ssw 4 hs rfl rfl hk rfl rfl rfl rfl sz35 (by simp [Value.oneCell']) rfl fun w a hk hs => ?_
    refine se (hs.pick [(3, 3)] rfl) hk (hK_r5_9 _ _ ?_)
    refine wtl_nil fun w hF _ => ?_
    have hs := hs.f hF
    show R6 _ _
    rw [hR6]
    exact ⟨A_r5_3_2, p_r5_3_3, A_r5_7_2, p_r5_7_3, k_r5_3_4, k_r5_7_4, (hk.c 2 rfl hk.k), (hs.pick [(4, 4), (105001, 105001), (105081, 105081)] rfl), o_r5_3_5, o_r5_7_5⟩
  · intro a w hR0
    rw [hR6] at hR0
    obtain ⟨A_r5_3_2, p_r5_3_3, A_r5_7_2, p_r5_7_3, k_r5_3_4, k_r5_7_4, hk, hs, o_r5_3_5, o_r5_7_5⟩ := hR0
    refine hK4 _ _ ?_
    refine wp_ret ?_
    obtain rfl := Option.some.inj H
    exact fin hk _ [(.agg #[.slice A_r5_3_2 (([] : List ByteArray) ++ x0.Sure).length p_r5_3_3, .slice A_r5_7_2 (([] : List S_Io) ++ x0.Unsure).length p_r5_7_3])] rfl ⟨⟨_, rfl, run_loadN ag35 sz35 (box_cells hs (k := 4) rfl)⟩, trivial⟩ ⟨A_r5_3_2, p_r5_3_3, _, A_r5_7_2, p_r5_7_3, _, rfl, o_r5_3_5, o_r5_7_5, (hs.pick [(0, 105001), (1, 105081)] rfl).dnil⟩

noncomputable def spec_l05Flip.f (x0 : S_Device) (x1 : Int) (x2 : Int) (x3 : Int) : Option (S_Device) :=
  ((spec_l05Own.f x0).bind fun y5 => (if 0 ≤ x1 ∧ x1 < (y5.Sure.length : Int) then (if (y5.Sure.getD x1.toNat ByteArray.empty).size ≤ 1073741824 then (if 0 ≤ x2 ∧ x2 < ((bytesOf (y5.Sure.getD x1.toNat ByteArray.empty)).length : Int) then (if 0 ≤ x2 ∧ x2 < ((bytesOf (y5.Sure.getD x1.toNat ByteArray.empty)).length : Int) then (if 0 ≤ x1 ∧ x1 < (y5.Sure.length : Int) then (some (⟨(y5.Sure.set x1.toNat (strOfNums ((bytesOf (y5.Sure.getD x1.toNat ByteArray.empty)).set x2.toNat (IntKind.wrap .u8 ((BitVec.ofInt 8 ((bytesOf (y5.Sure.getD x1.toNat ByteArray.empty)).getD x2.toNat 0) ^^^ BitVec.ofInt 8 (IntKind.wrap .u8 x3)).toNat : Int))))), y5.Unsure⟩ : S_Device)) else none) else none) else none) else none) else none))
set_option maxRecDepth 100000 in
set_option maxHeartbeats 0 in
theorem spec_l05Flip_t (w0 : World) (x0 : S_Device) (A0_0 : Option Addr) (p0_0 : Nat) (k0_0 : Chunk) (v0_0 : View Lay.str A0_0 p0_0 x0.Sure k0_0) (w0_0 : Has w0 k0_0) (A0_1 : Option Addr) (p0_1 : Nat) (k0_1 : Chunk) (v0_1 : View L_Io A0_1 p0_1 x0.Unsure k0_1) (w0_1 : Has w0 k0_1) (x1 : Int) (x2 : Int) (x3 : Int) (r : S_Device) (H : spec_l05Flip.f x0 x1 x2 x3 = some r) :
    Calls Try.prog 76 #[.agg #[.slice A0_0 x0.Sure.length p0_0, .slice A0_1 x0.Unsure.length p0_1], .int .i64 x1, .int .i64 x2, .int .i64 x3] w0 (Ret (fun v w => ∃ (A0 : Option Addr) (p0 : Nat) (k0 : Chunk), ∃ (A1 : Option Addr) (p1 : Nat) (k1 : Chunk), v = .agg #[.slice A0 r.Sure.length p0, .slice A1 r.Unsure.length p1] ∧ Own Lay.str 9 A0 p0 r.Sure k0 ∧ Own L_Io 114 A1 p1 r.Unsure k1 ∧ Sat [] w0 w [] [(0, k0), (1, k1)])) := by
  have hs : Sat [] w0 w0 [(1, k0_0), (2, k0_1)] [] := Sat.init w0 [(1, k0_0), (2, k0_1)] [] (by simp only [List.mem_cons, List.not_mem_nil, or_false]; rintro x (rfl | rfl) <;> assumption) (by simp) List.nodup_nil (by simp [blks])
  unfold spec_l05Flip.f at H
  refine enter Try.func76 rfl Try.ntmps76 rfl fun a hk => ?_
  apply wp_seq_k; intro K1 hK1
  apply wp_region_lit
  refine sbx 3 hs rfl hk rfl rfl rfl rfl fun b2 w a hk hs => ?_
  refine salx 4 hs rfl hk rfl rfl ze35 rfl fun b3 w a hk hs => ?_
  show wpList _ _ _ [] _ _
  refine wpList_nil ?_
  refine hK1 _ _ ?_
  apply wp_seq_k; intro K4 hK4
  apply wp_region_lit
  refine sln [.slice A0_0 x0.Sure.length p0_0, .slice A0_1 x0.Unsure.length p0_1] rfl hk rfl rfl rfl ag35 sz35 (box_cells hs (k := 3) rfl) fun a hk => ?_
  obtain ⟨y5, h6, H⟩ := bind_some H
  refine sc rfl en75 hk rfl rfl rfl (spec_l05Own_t _ x0 A0_0 p0_0 _ v0_0 (hs.hasD (k := 1) rfl) A0_1 p0_1 _ v0_1 (hs.hasD (k := 2) rfl) _ h6) ?_
  rintro _ w ⟨A7, p8, k9, A11, p12, k13, rfl, o10, o14, hG⟩ a hk
  have hs := hs.call0k hG [5, 6] rfl
  refine ssw 3 hs rfl rfl hk rfl rfl rfl rfl sz35 (by simp [Value.oneCell']) rfl fun w a hk hs => ?_
  show wpList _ _ _ [] _ _
  refine wpList_nil ?_
  refine hK4 _ _ ?_
  apply wp_seq_k; intro K15 hK15
  apply wp_region_lit
  refine sf ⟨b2, 0, none⟩ rfl hk rfl rfl rfl fd35_0 rfl fun a hk => ?_
  refine sl rfl hk rfl rfl rfl ag24 (box_cell hs (k := 3) rfl rfl) fun a hk => ?_
  refine sm _ rfl hk rfl rfl rfl fun a hk => ?_
  rcases ite_some H with ⟨c16, H⟩ | ⟨_, H⟩
  rotate_left
  · cases H
  obtain ⟨b17, q18, hAc16⟩ := (o10.view).some_ x1 c16.1 c16.2
  refine si rfl hk rfl rfl rfl rfl un24 sz9 c16.1 c16.2 hAc16 fun a hk => ?_
  obtain ⟨_, rfl, e19⟩ := (o10.view).at_ ByteArray.empty x1 c16.1 c16.2
  refine sl (v := (.string (y5.Sure.getD x1.toNat ByteArray.empty))) rfl hk rfl rfl rfl ag9 ((e19 0 _ rfl).cell (hs.hasG (k := 5) rfl)) fun a hk => ?_
  rcases ite_some H with ⟨c20, H⟩ | ⟨_, H⟩
  rotate_left
  · cases H
  refine scb 7 hs rfl hk rfl rfl rfl un9 un102 un5 c20 fun b21 p22 k23 w a hk o24 hs => ?_
  refine sa _ rfl hk rfl rfl rfl fun a hk => ?_
  show wpList _ _ _ [] _ _
  refine wpList_nil ?_
  refine hK15 _ _ ?_
  apply wp_seq_k; intro K25 hK25
  apply wp_region_lit
  refine sm _ rfl hk rfl rfl rfl fun a hk => ?_
  refine sm _ rfl hk rfl rfl rfl fun a hk => ?_
  rcases ite_some H with ⟨c26, H⟩ | ⟨_, H⟩
  rotate_left
  · cases H
  obtain ⟨b27, q28, hAc26⟩ := (o24.view).some_ x2 c26.1 c26.2
  refine si rfl hk rfl rfl rfl rfl un102 sz5 c26.1 c26.2 hAc26 fun a hk => ?_
  obtain ⟨_, rfl, e29⟩ := (o24.view).at_ 0 x2 c26.1 c26.2
  refine sl (v := (.int .u8 ((bytesOf (y5.Sure.getD x1.toNat ByteArray.empty)).getD x2.toNat 0))) rfl hk rfl rfl rfl ag5 ((e29 0 _ rfl).cell (hs.hasG (k := 7) rfl)) fun a hk => ?_
  refine sm _ rfl hk rfl rfl rfl fun a hk => ?_
  refine scn rfl hk rfl rfl rfl un5 un3 fun a hk => ?_
  refine sv (.int .u8 (IntKind.wrap .u8 ((BitVec.ofInt 8 ((bytesOf (y5.Sure.getD x1.toNat ByteArray.empty)).getD x2.toNat 0) ^^^ BitVec.ofInt 8 (IntKind.wrap .u8 x3)).toNat : Int))) hk rfl rfl rfl fun a hk => ?_
  rcases ite_some H with ⟨c30, H⟩ | ⟨_, H⟩
  rotate_left
  · cases H
  obtain ⟨b31, q32, hAc30⟩ := (o24.view).some_ x2 c30.1 c30.2
  refine si rfl hk rfl rfl rfl rfl un102 sz5 c30.1 c30.2 hAc30 fun a hk => ?_
  refine sob 7 (IntKind.wrap .u8 ((BitVec.ofInt 8 ((bytesOf (y5.Sure.getD x1.toNat ByteArray.empty)).getD x2.toNat 0) ^^^ BitVec.ofInt 8 (IntKind.wrap .u8 x3)).toNat : Int)) hs rfl o24 c30.1 c30.2 rfl hk rfl rfl rfl rfl rfl sz5 rfl rfl rfl ⟨rfl, rfl⟩ fun k33 w a hk o34 hs => ?_
  have lh35 : ((bytesOf (y5.Sure.getD x1.toNat ByteArray.empty)).set x2.toNat (IntKind.wrap .u8 ((BitVec.ofInt 8 ((bytesOf (y5.Sure.getD x1.toNat ByteArray.empty)).getD x2.toNat 0) ^^^ BitVec.ofInt 8 (IntKind.wrap .u8 x3)).toNat : Int))).length = (bytesOf (y5.Sure.getD x1.toNat ByteArray.empty)).length := by rw [List.length_set]
  show wpList _ _ _ [] _ _
  refine wpList_nil ?_
  refine hK25 _ _ ?_
  apply wp_seq_k; intro K36 hK36
  apply wp_region_lit
  refine sf ⟨b2, 0, none⟩ rfl hk rfl rfl rfl fd35_0 rfl fun a hk => ?_
  refine sl rfl hk rfl rfl rfl ag24 (box_cell hs (k := 3) rfl rfl) fun a hk => ?_
  refine sm _ rfl hk rfl rfl rfl fun a hk => ?_
  refine sm _ rfl hk rfl rfl rfl fun a hk => ?_
  refine sbt (xs := ((bytesOf (y5.Sure.getD x1.toNat ByteArray.empty)).set x2.toNat (IntKind.wrap .u8 ((BitVec.ofInt 8 ((bytesOf (y5.Sure.getD x1.toNat ByteArray.empty)).getD x2.toNat 0) ^^^ BitVec.ofInt 8 (IntKind.wrap .u8 x3)).toNat : Int)))) rfl hk rfl rfl lh35.symm rfl un102 un5 un9 o34.view (hs.hasG (k := 7) rfl) fun a hk => ?_
  rcases ite_some H with ⟨c37, H⟩ | ⟨_, H⟩
  rotate_left
  · cases H
  obtain ⟨b38, q39, hAc37⟩ := (o10.view).some_ x1 c37.1 c37.2
  refine si rfl hk rfl rfl rfl rfl un24 sz9 c37.1 c37.2 hAc37 fun a hk => ?_
  refine so (j := 0) 5 ByteArray.empty (strOfNums ((bytesOf (y5.Sure.getD x1.toNat ByteArray.empty)).set x2.toNat (IntKind.wrap .u8 ((BitVec.ofInt 8 ((bytesOf (y5.Sure.getD x1.toNat ByteArray.empty)).getD x2.toNat 0) ^^^ BitVec.ofInt 8 (IntKind.wrap .u8 x3)).toNat : Int)))) hs rfl o10 c37.1 c37.2 rfl hk rfl rfl rfl rfl rfl sz9 (by simp [Value.cells, Value.oneCell']) (Nat.le_of_ble_eq_true rfl) (fun _ _ h => ⟨by rw [h.1]; rfl, h.2⟩) fun k40 w a hk o41 hs => ?_
  have lh42 : (y5.Sure.set x1.toNat (strOfNums ((bytesOf (y5.Sure.getD x1.toNat ByteArray.empty)).set x2.toNat (IntKind.wrap .u8 ((BitVec.ofInt 8 ((bytesOf (y5.Sure.getD x1.toNat ByteArray.empty)).getD x2.toNat 0) ^^^ BitVec.ofInt 8 (IntKind.wrap .u8 x3)).toNat : Int))))).length = y5.Sure.length := by rw [List.length_set]
  show wpList _ _ _ [] _ _
  refine wpList_nil ?_
  refine hK36 _ _ ?_
  apply wp_seq_k; intro K43 hK43
  apply wp_region_lit
  refine sln [.slice A7 y5.Sure.length p8, .slice A11 y5.Unsure.length p12] rfl hk rfl rfl rfl ag35 sz35 (box_cells hs (k := 3) rfl) fun a hk => ?_
  refine ssw 4 hs rfl rfl hk rfl rfl rfl rfl sz35 (by simp [Value.oneCell']) rfl fun w a hk hs => ?_
  show wpList _ _ _ [] _ _
  refine wpList_nil ?_
  refine hK43 _ _ ?_
  refine wp_ret ?_
  obtain rfl := Option.some.inj H
  exact fin hk _ [(.agg #[.slice A7 y5.Sure.length p8, .slice A11 y5.Unsure.length p12])] rfl ⟨⟨_, rfl, run_loadN ag35 sz35 (box_cells hs (k := 4) rfl)⟩, trivial⟩ ⟨A7, p8, _, A11, p12, _, (by first | (rw [lh42]; done) | (rw [lh42]; rfl)), o41, o14, (hs.pick [(0, 5), (1, 6)] rfl).dnil⟩

noncomputable def spec_FlipAt.f (x0 : S_Device) (x1 : Int) (x2 : Int) (x3 : Int) : Option (S_Device × Int) :=
  ((spec_DeviceOK.f x0).bind fun y6 => (bif (!y6) then (some ((⟨([] : List ByteArray), ([] : List S_Io)⟩ : S_Device), 1)) else ((((spec_l05In.f x1).bind fun y18 => (bif (!y18) then (some true) else ((spec_l01In.f x3 1 255).bind fun y21 => (some (!y21))))) : Option (Bool)).bind fun u13 => (bif u13 then (some ((⟨([] : List ByteArray), ([] : List S_Io)⟩ : S_Device), 4)) else (if 0 ≤ x1 ∧ x1 < (x0.Sure.length : Int) then ((spec_l01In.f x2 0 (w64 (((x0.Sure.getD x1.toNat ByteArray.empty).size : Int) - 1))).bind fun y31 => (bif (!y31) then ((spec_l05Own.f x0).bind fun y35 => (some (y35, 5))) else ((spec_l05Flip.f x0 x1 x2 x3).bind fun y46 => (some (y46, 0))))) else none)))))
set_option maxRecDepth 100000 in
set_option maxHeartbeats 0 in
theorem spec_FlipAt_t (w0 : World) (x0 : S_Device) (A0_0 : Option Addr) (p0_0 : Nat) (k0_0 : Chunk) (v0_0 : View Lay.str A0_0 p0_0 x0.Sure k0_0) (w0_0 : Has w0 k0_0) (A0_1 : Option Addr) (p0_1 : Nat) (k0_1 : Chunk) (v0_1 : View L_Io A0_1 p0_1 x0.Unsure k0_1) (w0_1 : Has w0 k0_1) (x1 : Int) (x2 : Int) (x3 : Int) (r : S_Device × Int) (H : spec_FlipAt.f x0 x1 x2 x3 = some r) :
    Calls Try.prog 29 #[.agg #[.slice A0_0 x0.Sure.length p0_0, .slice A0_1 x0.Unsure.length p0_1], .int .i64 x1, .int .i64 x2, .int .i64 x3] w0 (Ret (fun v w => ∃ (A0 : Option Addr) (p0 : Nat) (k0 : Chunk), ∃ (A1 : Option Addr) (p1 : Nat) (k1 : Chunk), v = .tuple #[.agg #[.slice A0 r.1.Sure.length p0, .slice A1 r.1.Unsure.length p1], .int .i64 r.2] ∧ Own Lay.str 9 A0 p0 r.1.Sure k0 ∧ Own L_Io 114 A1 p1 r.1.Unsure k1 ∧ Sat [] w0 w [] [(0, k0), (1, k1)])) := by
  have hs : Sat [] w0 w0 [(1, k0_0), (2, k0_1)] [] := Sat.init w0 [(1, k0_0), (2, k0_1)] [] (by simp only [List.mem_cons, List.not_mem_nil, or_false]; rintro x (rfl | rfl) <;> assumption) (by simp) List.nodup_nil (by simp [blks])
  unfold spec_FlipAt.f at H
  refine enter Try.func29 rfl Try.ntmps29 rfl fun a hk => ?_
  apply wp_seq_k; intro K1 hK1
  apply wp_region_lit
  refine sbx 3 hs rfl hk rfl rfl rfl rfl fun b2 w a hk hs => ?_
  refine salx 4 hs rfl hk rfl rfl ze35 rfl fun b3 w a hk hs => ?_
  refine sa _ rfl hk rfl rfl rfl fun a hk => ?_
  show wpList _ _ _ [] _ _
  refine wpList_nil ?_
  refine hK1 _ _ ?_
  apply wp_seq_k; intro K4 hK4
  apply wp_seq_k; intro K5 hK5
  apply wp_region_lit
  refine sln [.slice A0_0 x0.Sure.length p0_0, .slice A0_1 x0.Unsure.length p0_1] rfl hk rfl rfl rfl ag35 sz35 (box_cells hs (k := 3) rfl) fun a hk => ?_
  obtain ⟨y6, h7, H⟩ := bind_some H
  refine sc rfl en49 hk rfl rfl rfl (spec_DeviceOK_t _ x0 A0_0 p0_0 _ v0_0 (hs.hasD (k := 1) rfl) A0_1 p0_1 _ v0_1 (hs.hasD (k := 2) rfl) _ h7) ?_
  rintro _ w ⟨rfl, hG⟩ a hk
  have hs := hs.call0 hG
  refine sv (.bool (!y6)) hk rfl rfl rfl fun a hk => ?_
  show wpList _ _ _ [] _ _
  refine wpList_nil ?_
  refine hK5 _ _ ?_
  rcases cond_some H with ⟨c8, H⟩ | ⟨c8, H⟩
  · have hk := hk.lit 12 c8 rfl
    refine cnd_true hk rfl rfl ?_
    apply wp_seq_k; intro K9 hK9
    apply wp_region_lit
    refine sbd (pv := []) rfl hk rfl rfl rfl bd35_1 fun a hk => ?_
    refine ssw 4 hs rfl rfl hk rfl rfl rfl rfl sz35 (by simp [Value.oneCell']) rfl fun w a hk hs => ?_
    refine sa _ rfl hk rfl rfl rfl fun a hk => ?_
    show wpList _ _ _ [] _ _
    refine wpList_nil ?_
    refine hK9 _ _ ?_
    refine wp_ret ?_
    obtain rfl := Option.some.inj H
    have hs := hs.addNil 5
    have hs := hs.addNil 6
    exact fin hk _ [(.agg #[.slice none 0 0, .slice none 0 0]), (.int .i64 1)] rfl ⟨⟨_, rfl, run_loadN ag35 sz35 (box_cells hs (k := 4) rfl)⟩, ⟨rfl, trivial⟩⟩ ⟨none, 0, [], none, 0, [], rfl, Own.nil _ _, Own.nil _ _, (hs.pick [(0, 5), (1, 6)] rfl).dnil⟩
  · have hk := hk.lit 12 c8 rfl
    refine cnd_false hk rfl rfl ?_
    refine wp_skip ?_
    refine hK4 _ _ ?_
    apply wp_seq_k; intro K10 hK10
    apply wp_seq_k; intro K11 hK11
    obtain ⟨o14, h15, HL16⟩ := bind_some H
    clear H
    obtain ⟨R17, hR17⟩ : ∃ R : Act → World → Prop, R = fun a w => ∃ (u13 : Bool), u13 = o14 ∧ Kn [(1, (.int .i64 x1)), (2, (.int .i64 x2)), (3, (.int .i64 x3)), (4, (.pointer (some ⟨b2, 0, none⟩))), (8, (.pointer (some ⟨b3, 0, none⟩))), (21, (.bool u13))] 40 a ∧ Sat [] w0 w [(1, k0_0), (2, k0_1)] [(3, [(b2, .cells #[.slice A0_0 x0.Sure.length p0_0, .slice A0_1 x0.Unsure.length p0_1] 35 (0, 0))]), (4, [(b3, .cells #[.slice none 0 0, .slice none 0 0] 35 (0, 0))])] := ⟨_, rfl⟩
    refine wp_cutq R17 ?_ ?_
    · have H := h15
      apply wp_region_lit
      refine sm _ rfl hk rfl rfl rfl fun a hk => ?_
      obtain ⟨y18, h19, H⟩ := bind_some H
      refine sc rfl en57 hk rfl rfl rfl (spec_l05In_t _ x1 _ h19) ?_
      rintro _ w ⟨rfl, hG⟩ a hk
      have hs := hs.call0 hG
      refine sv (.bool (!y18)) hk rfl rfl rfl fun a hk => ?_
      refine sm _ rfl hk rfl rfl rfl fun a hk => ?_
      rcases cond_some H with ⟨c20, H⟩ | ⟨c20, H⟩
      · have hk := hk.lit 17 c20 rfl
        refine sk hk rfl rfl rfl fun a hk => ?_
        refine sk hk rfl rfl rfl fun a hk => ?_
        refine sk hk rfl rfl rfl fun a hk => ?_
        refine sv (.bool true) hk rfl rfl rfl fun a hk => ?_
        show wpList _ _ _ [] _ _
        refine wpList_nil ?_
        obtain rfl := Option.some.inj H
        show R17 _ _
        rw [hR17]
        exact ⟨true, rfl, (hk.c 1 rfl (hk.c 2 rfl (hk.c 3 rfl (hk.c 4 rfl (hk.c 8 rfl (hk.c 21 rfl hk.k)))))), (hs.pick [(3, 3), (4, 4)] rfl)⟩
      · have hk := hk.lit 17 c20 rfl
        refine sm _ rfl hk rfl rfl rfl fun a hk => ?_
        obtain ⟨y21, h22, H⟩ := bind_some H
        refine sc rfl en53 hk rfl rfl rfl (spec_l01In_t _ x3 1 255 _ h22) ?_
        rintro _ w ⟨rfl, hG⟩ a hk
        have hs := hs.call0 hG
        refine sv (.bool (!y21)) hk rfl rfl rfl fun a hk => ?_
        refine sv (.bool (!y21)) hk rfl rfl rfl fun a hk => ?_
        show wpList _ _ _ [] _ _
        refine wpList_nil ?_
        obtain rfl := Option.some.inj H
        show R17 _ _
        rw [hR17]
        exact ⟨(!y21), rfl, (hk.c 1 rfl (hk.c 2 rfl (hk.c 3 rfl (hk.c 4 rfl (hk.c 8 rfl (hk.c 21 rfl hk.k)))))), (hs.pick [(3, 3), (4, 4)] rfl)⟩
    · intro a w hR0
      rw [hR17] at hR0
      obtain ⟨u13, rfl, hk, hs⟩ := hR0
      have H := HL16
      try dsimp only at H
      refine hK11 _ _ ?_
      rcases cond_some H with ⟨c23, H⟩ | ⟨c23, H⟩
      · have hk := hk.lit 21 c23 rfl
        refine cnd_true hk rfl rfl ?_
        apply wp_seq_k; intro K24 hK24
        apply wp_region_lit
        refine sbd (pv := []) rfl hk rfl rfl rfl bd35_1 fun a hk => ?_
        refine ssw 4 hs rfl rfl hk rfl rfl rfl rfl sz35 (by simp [Value.oneCell']) rfl fun w a hk hs => ?_
        refine sa _ rfl hk rfl rfl rfl fun a hk => ?_
        show wpList _ _ _ [] _ _
        refine wpList_nil ?_
        refine hK24 _ _ ?_
        refine wp_ret ?_
        obtain rfl := Option.some.inj H
        have hs := hs.addNil 8
        have hs := hs.addNil 9
        exact fin hk _ [(.agg #[.slice none 0 0, .slice none 0 0]), (.int .i64 4)] rfl ⟨⟨_, rfl, run_loadN ag35 sz35 (box_cells hs (k := 4) rfl)⟩, ⟨rfl, trivial⟩⟩ ⟨none, 0, [], none, 0, [], rfl, Own.nil _ _, Own.nil _ _, (hs.pick [(0, 8), (1, 9)] rfl).dnil⟩
      · have hk := hk.lit 21 c23 rfl
        refine cnd_false hk rfl rfl ?_
        refine wp_skip ?_
        refine hK10 _ _ ?_
        apply wp_seq_k; intro K25 hK25
        apply wp_seq_k; intro K26 hK26
        apply wp_region_lit
        refine sm _ rfl hk rfl rfl rfl fun a hk => ?_
        refine sf ⟨b2, 0, none⟩ rfl hk rfl rfl rfl fd35_0 rfl fun a hk => ?_
        refine sl rfl hk rfl rfl rfl ag24 (box_cell hs (k := 3) rfl rfl) fun a hk => ?_
        refine sm _ rfl hk rfl rfl rfl fun a hk => ?_
        rcases ite_some H with ⟨c27, H⟩ | ⟨_, H⟩
        rotate_left
        · cases H
        obtain ⟨b28, q29, hAc27⟩ := (v0_0).some_ x1 c27.1 c27.2
        refine si rfl hk rfl rfl rfl rfl un24 sz9 c27.1 c27.2 hAc27 fun a hk => ?_
        obtain ⟨_, rfl, e30⟩ := (v0_0).at_ ByteArray.empty x1 c27.1 c27.2
        refine sl (v := (.string (x0.Sure.getD x1.toNat ByteArray.empty))) rfl hk rfl rfl rfl ag9 ((e30 0 _ rfl).cell (hs.hasD (k := 1) rfl)) fun a hk => ?_
        refine sles rfl hk rfl rfl rfl un9 fun a hk => ?_
        refine sv (.int .i64 (w64 (((x0.Sure.getD x1.toNat ByteArray.empty).size : Int) - 1))) hk rfl rfl rfl fun a hk => ?_
        obtain ⟨y31, h32, H⟩ := bind_some H
        refine sc rfl en53 hk rfl rfl rfl (spec_l01In_t _ x2 0 (w64 (((x0.Sure.getD x1.toNat ByteArray.empty).size : Int) - 1)) _ h32) ?_
        rintro _ w ⟨rfl, hG⟩ a hk
        have hs := hs.call0 hG
        refine sv (.bool (!y31)) hk rfl rfl rfl fun a hk => ?_
        show wpList _ _ _ [] _ _
        refine wpList_nil ?_
        refine hK26 _ _ ?_
        rcases cond_some H with ⟨c33, H⟩ | ⟨c33, H⟩
        · have hk := hk.lit 32 c33 rfl
          refine cnd_true hk rfl rfl ?_
          apply wp_seq_k; intro K34 hK34
          apply wp_region_lit
          refine sln [.slice A0_0 x0.Sure.length p0_0, .slice A0_1 x0.Unsure.length p0_1] rfl hk rfl rfl rfl ag35 sz35 (box_cells hs (k := 3) rfl) fun a hk => ?_
          obtain ⟨y35, h36, H⟩ := bind_some H
          refine sc rfl en75 hk rfl rfl rfl (spec_l05Own_t _ x0 A0_0 p0_0 _ v0_0 (hs.hasD (k := 1) rfl) A0_1 p0_1 _ v0_1 (hs.hasD (k := 2) rfl) _ h36) ?_
          rintro _ w ⟨A37, p38, k39, A41, p42, k43, rfl, o40, o44, hG⟩ a hk
          have hs := hs.call0k hG [10, 11] rfl
          refine ssw 4 hs rfl rfl hk rfl rfl rfl rfl sz35 (by simp [Value.oneCell']) rfl fun w a hk hs => ?_
          refine sa _ rfl hk rfl rfl rfl fun a hk => ?_
          show wpList _ _ _ [] _ _
          refine wpList_nil ?_
          refine hK34 _ _ ?_
          refine wp_ret ?_
          obtain rfl := Option.some.inj H
          exact fin hk _ [(.agg #[.slice A37 y35.Sure.length p38, .slice A41 y35.Unsure.length p42]), (.int .i64 5)] rfl ⟨⟨_, rfl, run_loadN ag35 sz35 (box_cells hs (k := 4) rfl)⟩, ⟨rfl, trivial⟩⟩ ⟨A37, p38, _, A41, p42, _, rfl, o40, o44, (hs.pick [(0, 10), (1, 11)] rfl).dnil⟩
        · have hk := hk.lit 32 c33 rfl
          refine cnd_false hk rfl rfl ?_
          refine wp_skip ?_
          refine hK25 _ _ ?_
          apply wp_seq_k; intro K45 hK45
          apply wp_region_lit
          refine sln [.slice A0_0 x0.Sure.length p0_0, .slice A0_1 x0.Unsure.length p0_1] rfl hk rfl rfl rfl ag35 sz35 (box_cells hs (k := 3) rfl) fun a hk => ?_
          refine sm _ rfl hk rfl rfl rfl fun a hk => ?_
          refine sm _ rfl hk rfl rfl rfl fun a hk => ?_
          refine sm _ rfl hk rfl rfl rfl fun a hk => ?_
          obtain ⟨y46, h47, H⟩ := bind_some H
          refine sc rfl en76 hk rfl rfl rfl (spec_l05Flip_t _ x0 A0_0 p0_0 _ v0_0 (hs.hasD (k := 1) rfl) A0_1 p0_1 _ v0_1 (hs.hasD (k := 2) rfl) x1 x2 x3 _ h47) ?_
          rintro _ w ⟨A48, p49, k50, A52, p53, k54, rfl, o51, o55, hG⟩ a hk
          have hs := hs.call0k hG [12, 13] rfl
          refine ssw 4 hs rfl rfl hk rfl rfl rfl rfl sz35 (by simp [Value.oneCell']) rfl fun w a hk hs => ?_
          refine sa _ rfl hk rfl rfl rfl fun a hk => ?_
          show wpList _ _ _ [] _ _
          refine wpList_nil ?_
          refine hK45 _ _ ?_
          refine wp_ret ?_
          obtain rfl := Option.some.inj H
          exact fin hk _ [(.agg #[.slice A48 y46.Sure.length p49, .slice A52 y46.Unsure.length p53]), (.int .i64 0)] rfl ⟨⟨_, rfl, run_loadN ag35 sz35 (box_cells hs (k := 4) rfl)⟩, ⟨rfl, trivial⟩⟩ ⟨A48, p49, _, A52, p53, _, rfl, o51, o55, (hs.pick [(0, 12), (1, 13)] rfl).dnil⟩

noncomputable def slices_Clone_string_string.f (l0 : List ByteArray) : Option (List ByteArray) :=
  (if l0.length ≤ 1073741824 then (some l0) else none)
set_option maxRecDepth 100000 in
set_option maxHeartbeats 0 in
theorem slices_Clone_string_string_t (w0 : World) (A0_ : Option Addr) (p0_ : Nat) (l0 : List ByteArray) (k0_ : Chunk) (v0_ : View Lay.str A0_ p0_ l0 k0_) (w0_ : Has w0 k0_) (r : List ByteArray) (H : slices_Clone_string_string.f l0 = some r) :
    Calls Try.prog 118 #[.slice A0_ l0.length p0_] w0 (Ret (fun v w => ∃ (A0 : Option Addr) (p0 : Nat) (k0 : Chunk), v = .slice A0 r.length p0 ∧ Own Lay.str 9 A0 p0 r k0 ∧ Sat [] w0 w [] [(0, k0)])) := by
  have hs : Sat [] w0 w0 [(1, k0_)] [] := Sat.init w0 [(1, k0_)] [] (by simp only [List.mem_cons, List.not_mem_nil, or_false]; rintro x (rfl) <;> assumption) (by simp) List.nodup_nil (by simp [blks])
  unfold slices_Clone_string_string.f at H
  rcases ite_some H with ⟨c, H⟩ | ⟨_, H⟩
  rotate_left
  · cases H
  obtain rfl := Option.some.inj H
  refine enter Try.func118 rfl Try.ntmps118 rfl fun a hk => ?_
  apply wp_seq_k; intro K1 hK1
  apply wp_region_lit
  refine sa _ rfl hk rfl rfl rfl fun a hk => ?_
  refine wpList_nil ?_
  refine hK1 _ _ ?_
  apply wp_seq_k; intro K3 hK3
  apply wp_seq_k; intro K2 hK2
  apply wp_region_lit
  refine sm _ rfl hk rfl rfl rfl fun a hk => ?_
  refine snl rfl hk rfl rfl rfl un24 fun a hk => ?_
  refine wpList_nil ?_
  refine hK2 _ _ ?_
  cases A0_ with
  | none =>
    obtain rfl := v0_.none_nil
    refine cnd_true hk rfl rfl ?_
    apply wp_seq_k; intro K4 hK4
    apply wp_region_lit
    refine sa _ rfl hk rfl rfl rfl fun a hk => ?_
    refine wpList_nil ?_
    refine hK4 _ _ ?_
    refine wp_ret ?_
    have hs := hs.addNil 9
    exact fin hk _ [(.slice none 0 0)] rfl ⟨rfl, trivial⟩ ⟨none, 0, [], rfl, Own.nil _ _, (hs.pick [(0, 9)] rfl).dnil⟩
  | some A0_ =>
    refine cnd_false hk rfl rfl ?_
    refine wp_skip ?_
    refine hK3 _ _ ?_
    apply wp_seq_k; intro K5 hK5
    apply wp_region_lit
    refine sbs0 2 Lay.str hs rfl hk rfl rfl un24 sz9 fun b k w a hk o hs => ?_
    refine sm _ rfl hk rfl rfl rfl fun a hk => ?_
    refine sap 2 (xs := ([] : List ByteArray)) (ys := l0) (flat_flat : (Lay.str).Flat) hs rfl o v0_ (hs.hasD (k := 1) rfl) rfl hk rfl rfl rfl rfl rfl rfl un24 mk9 rfl rfl rfl (by simpa using c) fun A p k w a hk o hs => ?_
    refine sa _ rfl hk rfl rfl rfl fun a hk => ?_
    refine wpList_nil ?_
    refine hK5 _ _ ?_
    refine wp_ret ?_
    exact fin hk _ [(.slice A ([] ++ l0).length p)] rfl ⟨rfl, trivial⟩ ⟨A, p, _, rfl, o, (hs.pick [(0, 2)] rfl).dnil⟩

noncomputable def slices_Clone_impl_Io_impl_Io.f (l0 : List S_Io) : Option (List S_Io) :=
  (if l0.length ≤ 1073741824 then (some l0) else none)
set_option maxRecDepth 100000 in
set_option maxHeartbeats 0 in
theorem slices_Clone_impl_Io_impl_Io_t (w0 : World) (A0_ : Option Addr) (p0_ : Nat) (l0 : List S_Io) (k0_ : Chunk) (v0_ : View L_Io A0_ p0_ l0 k0_) (w0_ : Has w0 k0_) (r : List S_Io) (H : slices_Clone_impl_Io_impl_Io.f l0 = some r) :
    Calls Try.prog 119 #[.slice A0_ l0.length p0_] w0 (Ret (fun v w => ∃ (A0 : Option Addr) (p0 : Nat) (k0 : Chunk), v = .slice A0 r.length p0 ∧ Own L_Io 114 A0 p0 r k0 ∧ Sat [] w0 w [] [(0, k0)])) := by
  have hs : Sat [] w0 w0 [(1, k0_)] [] := Sat.init w0 [(1, k0_)] [] (by simp only [List.mem_cons, List.not_mem_nil, or_false]; rintro x (rfl) <;> assumption) (by simp) List.nodup_nil (by simp [blks])
  unfold slices_Clone_impl_Io_impl_Io.f at H
  rcases ite_some H with ⟨c, H⟩ | ⟨_, H⟩
  rotate_left
  · cases H
  obtain rfl := Option.some.inj H
  refine enter Try.func119 rfl Try.ntmps119 rfl fun a hk => ?_
  apply wp_seq_k; intro K1 hK1
  apply wp_region_lit
  refine sa _ rfl hk rfl rfl rfl fun a hk => ?_
  refine wpList_nil ?_
  refine hK1 _ _ ?_
  apply wp_seq_k; intro K3 hK3
  apply wp_seq_k; intro K2 hK2
  apply wp_region_lit
  refine sm _ rfl hk rfl rfl rfl fun a hk => ?_
  refine snl rfl hk rfl rfl rfl un33 fun a hk => ?_
  refine wpList_nil ?_
  refine hK2 _ _ ?_
  cases A0_ with
  | none =>
    obtain rfl := v0_.none_nil
    refine cnd_true hk rfl rfl ?_
    apply wp_seq_k; intro K4 hK4
    apply wp_region_lit
    refine sa _ rfl hk rfl rfl rfl fun a hk => ?_
    refine wpList_nil ?_
    refine hK4 _ _ ?_
    refine wp_ret ?_
    have hs := hs.addNil 9
    exact fin hk _ [(.slice none 0 0)] rfl ⟨rfl, trivial⟩ ⟨none, 0, [], rfl, Own.nil _ _, (hs.pick [(0, 9)] rfl).dnil⟩
  | some A0_ =>
    refine cnd_false hk rfl rfl ?_
    refine wp_skip ?_
    refine hK3 _ _ ?_
    apply wp_seq_k; intro K5 hK5
    apply wp_region_lit
    refine sbs0 2 L_Io hs rfl hk rfl rfl un33 sz114 fun b k w a hk o hs => ?_
    refine sm _ rfl hk rfl rfl rfl fun a hk => ?_
    refine sap 2 (xs := ([] : List S_Io)) (ys := l0) (flat_flat : (L_Io).Flat) hs rfl o v0_ (hs.hasD (k := 1) rfl) rfl hk rfl rfl rfl rfl rfl rfl un33 mk114 rfl rfl rfl (by simpa using c) fun A p k w a hk o hs => ?_
    refine sa _ rfl hk rfl rfl rfl fun a hk => ?_
    refine wpList_nil ?_
    refine hK5 _ _ ?_
    refine wp_ret ?_
    exact fin hk _ [(.slice A ([] ++ l0).length p)] rfl ⟨rfl, trivial⟩ ⟨A, p, _, rfl, o, (hs.pick [(0, 2)] rfl).dnil⟩

noncomputable def impl_Device_own.f (x0 : S_Device) : Option (S_Device) :=
  ((slices_Clone_string_string.f x0.Sure).bind fun y6 => ((slices_Clone_impl_Io_impl_Io.f x0.Unsure).bind fun y13 => (some (⟨y6, y13⟩ : S_Device))))
set_option maxRecDepth 100000 in
set_option maxHeartbeats 0 in
theorem impl_Device_own_t (w0 : World) (x0 : S_Device) (A0_0 : Option Addr) (p0_0 : Nat) (k0_0 : Chunk) (v0_0 : View Lay.str A0_0 p0_0 x0.Sure k0_0) (w0_0 : Has w0 k0_0) (A0_1 : Option Addr) (p0_1 : Nat) (k0_1 : Chunk) (v0_1 : View L_Io A0_1 p0_1 x0.Unsure k0_1) (w0_1 : Has w0 k0_1) (r : S_Device) (H : impl_Device_own.f x0 = some r) :
    Calls Try.prog 80 #[.agg #[.slice A0_0 x0.Sure.length p0_0, .slice A0_1 x0.Unsure.length p0_1]] w0 (Ret (fun v w => ∃ (A0 : Option Addr) (p0 : Nat) (k0 : Chunk), ∃ (A1 : Option Addr) (p1 : Nat) (k1 : Chunk), v = .agg #[.slice A0 r.Sure.length p0, .slice A1 r.Unsure.length p1] ∧ Own Lay.str 9 A0 p0 r.Sure k0 ∧ Own L_Io 114 A1 p1 r.Unsure k1 ∧ Sat [] w0 w [] [(0, k0), (1, k1)])) := by
  have hs : Sat [] w0 w0 [(1, k0_0), (2, k0_1)] [] := Sat.init w0 [(1, k0_0), (2, k0_1)] [] (by simp only [List.mem_cons, List.not_mem_nil, or_false]; rintro x (rfl | rfl) <;> assumption) (by simp) List.nodup_nil (by simp [blks])
  unfold impl_Device_own.f at H
  refine enter Try.func80 rfl Try.ntmps80 rfl fun a hk => ?_
  apply wp_seq_k; intro K1 hK1
  apply wp_region_lit
  refine sbx 3 hs rfl hk rfl rfl rfl rfl fun b2 w a hk hs => ?_
  refine salx 4 hs rfl hk rfl rfl ze35 rfl fun b3 w a hk hs => ?_
  show wpList _ _ _ [] _ _
  refine wpList_nil ?_
  refine hK1 _ _ ?_
  apply wp_seq_k; intro K4 hK4
  refine wp_region_mix [(0, true), (1, true), (3, true), (4, true), (2, false), (5, false), (6, false), (7, false)] mo (by kernel_rfl) (hs.pick [(3, 3)] rfl) fun _ => ?_
  have hs := hs.drew
  refine qst (.pointer (some ⟨b2, 0, none⟩)) hk rfl rfl rfl rfl (fun w hs => sf ⟨b2, 0, none⟩ rfl hk rfl rfl rfl fd35_0 rfl fun a hk => qe hk) fun a hk => ?_
  refine qst (.slice A0_0 x0.Sure.length p0_0) hk rfl rfl rfl rfl (fun w hs => sl rfl hk rfl rfl rfl ag24 (box_cell hs (k := 3) rfl rfl) fun a hk => qe hk) fun a hk => ?_
  refine qst (.pointer (some ⟨b2, 1, none⟩)) hk rfl rfl rfl rfl (fun w hs => sf ⟨b2, 1, none⟩ rfl hk rfl rfl rfl fd35_1 rfl fun a hk => qe hk) fun a hk => ?_
  refine qst (.slice A0_1 x0.Unsure.length p0_1) hk rfl rfl rfl rfl (fun w hs => sl rfl hk rfl rfl rfl ag33 (box_cell hs (k := 3) rfl rfl) fun a hk => qe hk) fun a hk => ?_
  refine sst hk rfl rfl fun K5 hK5 w hF => ?_
  have hs := hs.f hF
  obtain ⟨y6, h7, H⟩ := bind_some H
  refine sc rfl en118 hk rfl rfl rfl (slices_Clone_string_string_t _ A0_0 p0_0 x0.Sure _ v0_0 (hs.hasD (k := 1) rfl) _ h7) ?_
  rintro _ w ⟨A8, p9, k10, rfl, o11, hG⟩ a hk
  have hs := hs.call0k hG [5] rfl
  refine se (hs.pick [(3, 3)] rfl) hk (hK5 _ _ ?_)
  refine sst hk rfl rfl fun K12 hK12 w hF => ?_
  have hs := hs.f hF
  obtain ⟨y13, h14, H⟩ := bind_some H
  refine sc rfl en119 hk rfl rfl rfl (slices_Clone_impl_Io_impl_Io_t _ A0_1 p0_1 x0.Unsure _ v0_1 (hs.hasD (k := 2) rfl) _ h14) ?_
  rintro _ w ⟨A15, p16, k17, rfl, o18, hG⟩ a hk
  have hs := hs.call0k hG [6] rfl
  refine se (hs.pick [(3, 3)] rfl) hk (hK12 _ _ ?_)
  refine sst hk rfl rfl fun K19 hK19 w hF => ?_
  have hs := hs.f hF
  refine sbd (pv := [(0, (.slice A8 y6.length p9)), (1, (.slice A15 y13.length p16))]) rfl hk rfl rfl rfl (bd35_0 A8 y6.length p9 A15 y13.length p16) fun a hk => ?_
  refine se (hs.pick [(3, 3)] rfl) hk (hK19 _ _ ?_)
  refine sst hk rfl rfl fun K20 hK20 w hF => ?_
  have hs := hs.f hF
  refine ssw 4 hs rfl rfl hk rfl rfl rfl rfl sz35 (by simp [Value.oneCell']) rfl fun w a hk hs => ?_
  refine se (hs.pick [(3, 3)] rfl) hk (hK20 _ _ ?_)
  refine wml_nil fun w hF _ => ?_
  have hs := hs.f hF
  refine hK4 _ _ ?_
  refine wp_ret ?_
  obtain rfl := Option.some.inj H
  exact fin hk _ [(.agg #[.slice A8 y6.length p9, .slice A15 y13.length p16])] rfl ⟨⟨_, rfl, run_loadN ag35 sz35 (box_cells hs (k := 4) rfl)⟩, trivial⟩ ⟨A8, p9, _, A15, p16, _, rfl, o11, o18, (hs.pick [(0, 5), (1, 6)] rfl).dnil⟩

noncomputable def impl_FlipAt.f (x0 : S_Device) (x1 : Int) (x2 : Int) (x3 : Int) : Option (S_Device × Int) :=
  ((impl_DeviceOK.f x0).bind fun y6 => (bif (!y6) then (some ((⟨([] : List ByteArray), ([] : List S_Io)⟩ : S_Device), 1)) else ((((impl_isSector.f x1).bind fun y17 => (bif (!y17) then (some true) else ((impl_within.f x3 1 255).bind fun y20 => (some (!y20))))) : Option (Bool)).bind fun u12 => (bif u12 then (some ((⟨([] : List ByteArray), ([] : List S_Io)⟩ : S_Device), 4)) else (if 0 ≤ x1 ∧ x1 < (x0.Sure.length : Int) then ((impl_within.f x2 0 (w64 (((x0.Sure.getD x1.toNat ByteArray.empty).size : Int) - 1))).bind fun y29 => (bif (!y29) then ((impl_Device_own.f x0).bind fun y33 => (some (y33, 5))) else ((impl_Device_own.f x0).bind fun y44 => (if 0 ≤ x1 ∧ x1 < (y44.Sure.length : Int) then (if (y44.Sure.getD x1.toNat ByteArray.empty).size ≤ 1073741824 then (if 0 ≤ x2 ∧ x2 < ((bytesOf (y44.Sure.getD x1.toNat ByteArray.empty)).length : Int) then (if 0 ≤ x2 ∧ x2 < ((bytesOf (y44.Sure.getD x1.toNat ByteArray.empty)).length : Int) then (if 0 ≤ x1 ∧ x1 < (y44.Sure.length : Int) then (some ((⟨(y44.Sure.set x1.toNat (strOfNums ((bytesOf (y44.Sure.getD x1.toNat ByteArray.empty)).set x2.toNat (IntKind.wrap .u8 ((BitVec.ofInt 8 ((bytesOf (y44.Sure.getD x1.toNat ByteArray.empty)).getD x2.toNat 0) ^^^ BitVec.ofInt 8 (IntKind.wrap .u8 x3)).toNat : Int))))), y44.Unsure⟩ : S_Device), 0)) else none) else none) else none) else none) else none)))) else none)))))
set_option maxRecDepth 100000 in
set_option maxHeartbeats 0 in
theorem impl_FlipAt_t (w0 : World) (x0 : S_Device) (A0_0 : Option Addr) (p0_0 : Nat) (k0_0 : Chunk) (v0_0 : View Lay.str A0_0 p0_0 x0.Sure k0_0) (w0_0 : Has w0 k0_0) (A0_1 : Option Addr) (p0_1 : Nat) (k0_1 : Chunk) (v0_1 : View L_Io A0_1 p0_1 x0.Unsure k0_1) (w0_1 : Has w0 k0_1) (x1 : Int) (x2 : Int) (x3 : Int) (r : S_Device × Int) (H : impl_FlipAt.f x0 x1 x2 x3 = some r) :
    Calls Try.prog 31 #[.agg #[.slice A0_0 x0.Sure.length p0_0, .slice A0_1 x0.Unsure.length p0_1], .int .i64 x1, .int .i64 x2, .int .i64 x3] w0 (Ret (fun v w => ∃ (A0 : Option Addr) (p0 : Nat) (k0 : Chunk), ∃ (A1 : Option Addr) (p1 : Nat) (k1 : Chunk), v = .tuple #[.agg #[.slice A0 r.1.Sure.length p0, .slice A1 r.1.Unsure.length p1], .int .i64 r.2] ∧ Own Lay.str 9 A0 p0 r.1.Sure k0 ∧ Own L_Io 114 A1 p1 r.1.Unsure k1 ∧ Sat [] w0 w [] [(0, k0), (1, k1)])) := by
  have hs : Sat [] w0 w0 [(1, k0_0), (2, k0_1)] [] := Sat.init w0 [(1, k0_0), (2, k0_1)] [] (by simp only [List.mem_cons, List.not_mem_nil, or_false]; rintro x (rfl | rfl) <;> assumption) (by simp) List.nodup_nil (by simp [blks])
  unfold impl_FlipAt.f at H
  refine enter Try.func31 rfl Try.ntmps31 rfl fun a hk => ?_
  apply wp_seq_k; intro K1 hK1
  apply wp_region_lit
  refine sbx 3 hs rfl hk rfl rfl rfl rfl fun b2 w a hk hs => ?_
  refine salx 4 hs rfl hk rfl rfl ze35 rfl fun b3 w a hk hs => ?_
  refine sa _ rfl hk rfl rfl rfl fun a hk => ?_
  show wpList _ _ _ [] _ _
  refine wpList_nil ?_
  refine hK1 _ _ ?_
  apply wp_seq_k; intro K4 hK4
  refine wp_block ?_
  apply wp_seq_k; intro K5 hK5
  apply wp_region_lit
  refine sln [.slice A0_0 x0.Sure.length p0_0, .slice A0_1 x0.Unsure.length p0_1] rfl hk rfl rfl rfl ag35 sz35 (box_cells hs (k := 3) rfl) fun a hk => ?_
  obtain ⟨y6, h7, H⟩ := bind_some H
  refine sc rfl en79 hk rfl rfl rfl (impl_DeviceOK_t _ x0 A0_0 p0_0 _ v0_0 (hs.hasD (k := 1) rfl) A0_1 p0_1 _ v0_1 (hs.hasD (k := 2) rfl) _ h7) ?_
  rintro _ w ⟨rfl, hG⟩ a hk
  have hs := hs.call0 hG
  refine sv (.bool (!y6)) hk rfl rfl rfl fun a hk => ?_
  refine sa _ rfl hk rfl rfl rfl fun a hk => ?_
  show wpList _ _ _ [] _ _
  refine wpList_nil ?_
  refine hK5 _ _ ?_
  rcases cond_some H with ⟨c8, H⟩ | ⟨c8, H⟩
  · have hk := hk.lit 12 c8 rfl
    refine cnd_true hk rfl rfl ?_
    apply wp_seq_k; intro K9 hK9
    apply wp_region_lit
    refine sbd (pv := []) rfl hk rfl rfl rfl bd35_1 fun a hk => ?_
    refine ssw 4 hs rfl rfl hk rfl rfl rfl rfl sz35 (by simp [Value.oneCell']) rfl fun w a hk hs => ?_
    refine sa _ rfl hk rfl rfl rfl fun a hk => ?_
    show wpList _ _ _ [] _ _
    refine wpList_nil ?_
    refine hK9 _ _ ?_
    refine wp_ret ?_
    obtain rfl := Option.some.inj H
    have hs := hs.addNil 5
    have hs := hs.addNil 6
    exact fin hk _ [(.agg #[.slice none 0 0, .slice none 0 0]), (.int .i64 1)] rfl ⟨⟨_, rfl, run_loadN ag35 sz35 (box_cells hs (k := 4) rfl)⟩, ⟨rfl, trivial⟩⟩ ⟨none, 0, [], none, 0, [], rfl, Own.nil _ _, Own.nil _ _, (hs.pick [(0, 5), (1, 6)] rfl).dnil⟩
  · have hk := hk.lit 12 c8 rfl
    refine cnd_false hk rfl rfl ?_
    apply wp_seq_k; intro K10 hK10
    obtain ⟨o13, h14, HL15⟩ := bind_some H
    clear H
    obtain ⟨R16, hR16⟩ : ∃ R : Act → World → Prop, R = fun a w => ∃ (u12 : Bool), u12 = o13 ∧ Kn [(1, (.int .i64 x1)), (2, (.int .i64 x2)), (3, (.int .i64 x3)), (4, (.pointer (some ⟨b2, 0, none⟩))), (8, (.pointer (some ⟨b3, 0, none⟩))), (17, (.bool u12))] 63 a ∧ Sat [] w0 w [(1, k0_0), (2, k0_1)] [(3, [(b2, .cells #[.slice A0_0 x0.Sure.length p0_0, .slice A0_1 x0.Unsure.length p0_1] 35 (0, 0))]), (4, [(b3, .cells #[.slice none 0 0, .slice none 0 0] 35 (0, 0))])] := ⟨_, rfl⟩
    refine wp_cutq R16 ?_ ?_
    · have H := h14
      apply wp_region_lit
      refine sm _ rfl hk rfl rfl rfl fun a hk => ?_
      obtain ⟨y17, h18, H⟩ := bind_some H
      refine sc rfl en64 hk rfl rfl rfl (impl_isSector_t _ x1 _ h18) ?_
      rintro _ w ⟨rfl, hG⟩ a hk
      have hs := hs.call0 hG
      refine sv (.bool (!y17)) hk rfl rfl rfl fun a hk => ?_
      refine sm _ rfl hk rfl rfl rfl fun a hk => ?_
      rcases cond_some H with ⟨c19, H⟩ | ⟨c19, H⟩
      · have hk := hk.lit 21 c19 rfl
        refine sk hk rfl rfl rfl fun a hk => ?_
        refine sk hk rfl rfl rfl fun a hk => ?_
        refine sk hk rfl rfl rfl fun a hk => ?_
        refine sv (.bool true) hk rfl rfl rfl fun a hk => ?_
        refine sa _ rfl hk rfl rfl rfl fun a hk => ?_
        show wpList _ _ _ [] _ _
        refine wpList_nil ?_
        obtain rfl := Option.some.inj H
        show R16 _ _
        rw [hR16]
        exact ⟨true, rfl, (hk.c 1 rfl (hk.c 2 rfl (hk.c 3 rfl (hk.c 4 rfl (hk.c 8 rfl (hk.c 17 rfl hk.k)))))), (hs.pick [(3, 3), (4, 4)] rfl)⟩
      · have hk := hk.lit 21 c19 rfl
        refine sm _ rfl hk rfl rfl rfl fun a hk => ?_
        obtain ⟨y20, h21, H⟩ := bind_some H
        refine sc rfl en65 hk rfl rfl rfl (impl_within_t _ x3 1 255 _ h21) ?_
        rintro _ w ⟨rfl, hG⟩ a hk
        have hs := hs.call0 hG
        refine sv (.bool (!y20)) hk rfl rfl rfl fun a hk => ?_
        refine sv (.bool (!y20)) hk rfl rfl rfl fun a hk => ?_
        refine sa _ rfl hk rfl rfl rfl fun a hk => ?_
        show wpList _ _ _ [] _ _
        refine wpList_nil ?_
        obtain rfl := Option.some.inj H
        show R16 _ _
        rw [hR16]
        exact ⟨(!y20), rfl, (hk.c 1 rfl (hk.c 2 rfl (hk.c 3 rfl (hk.c 4 rfl (hk.c 8 rfl (hk.c 17 rfl hk.k)))))), (hs.pick [(3, 3), (4, 4)] rfl)⟩
    · intro a w hR0
      rw [hR16] at hR0
      obtain ⟨u12, rfl, hk, hs⟩ := hR0
      have H := HL15
      try dsimp only at H
      refine hK10 _ _ ?_
      rcases cond_some H with ⟨c22, H⟩ | ⟨c22, H⟩
      · have hk := hk.lit 17 c22 rfl
        refine cnd_true hk rfl rfl ?_
        apply wp_seq_k; intro K23 hK23
        apply wp_region_lit
        refine sbd (pv := []) rfl hk rfl rfl rfl bd35_1 fun a hk => ?_
        refine ssw 4 hs rfl rfl hk rfl rfl rfl rfl sz35 (by simp [Value.oneCell']) rfl fun w a hk hs => ?_
        refine sa _ rfl hk rfl rfl rfl fun a hk => ?_
        show wpList _ _ _ [] _ _
        refine wpList_nil ?_
        refine hK23 _ _ ?_
        refine wp_ret ?_
        obtain rfl := Option.some.inj H
        have hs := hs.addNil 8
        have hs := hs.addNil 9
        exact fin hk _ [(.agg #[.slice none 0 0, .slice none 0 0]), (.int .i64 4)] rfl ⟨⟨_, rfl, run_loadN ag35 sz35 (box_cells hs (k := 4) rfl)⟩, ⟨rfl, trivial⟩⟩ ⟨none, 0, [], none, 0, [], rfl, Own.nil _ _, Own.nil _ _, (hs.pick [(0, 8), (1, 9)] rfl).dnil⟩
      · have hk := hk.lit 17 c22 rfl
        refine cnd_false hk rfl rfl ?_
        apply wp_seq_k; intro K24 hK24
        apply wp_region_lit
        refine sm _ rfl hk rfl rfl rfl fun a hk => ?_
        refine sf ⟨b2, 0, none⟩ rfl hk rfl rfl rfl fd35_0 rfl fun a hk => ?_
        refine sl rfl hk rfl rfl rfl ag24 (box_cell hs (k := 3) rfl rfl) fun a hk => ?_
        refine sm _ rfl hk rfl rfl rfl fun a hk => ?_
        rcases ite_some H with ⟨c25, H⟩ | ⟨_, H⟩
        rotate_left
        · cases H
        obtain ⟨b26, q27, hAc25⟩ := (v0_0).some_ x1 c25.1 c25.2
        refine si rfl hk rfl rfl rfl rfl un24 sz9 c25.1 c25.2 hAc25 fun a hk => ?_
        obtain ⟨_, rfl, e28⟩ := (v0_0).at_ ByteArray.empty x1 c25.1 c25.2
        refine sl (v := (.string (x0.Sure.getD x1.toNat ByteArray.empty))) rfl hk rfl rfl rfl ag9 ((e28 0 _ rfl).cell (hs.hasD (k := 1) rfl)) fun a hk => ?_
        refine sles rfl hk rfl rfl rfl un9 fun a hk => ?_
        refine sv (.int .i64 (w64 (((x0.Sure.getD x1.toNat ByteArray.empty).size : Int) - 1))) hk rfl rfl rfl fun a hk => ?_
        obtain ⟨y29, h30, H⟩ := bind_some H
        refine sc rfl en65 hk rfl rfl rfl (impl_within_t _ x2 0 (w64 (((x0.Sure.getD x1.toNat ByteArray.empty).size : Int) - 1)) _ h30) ?_
        rintro _ w ⟨rfl, hG⟩ a hk
        have hs := hs.call0 hG
        refine sv (.bool (!y29)) hk rfl rfl rfl fun a hk => ?_
        refine sa _ rfl hk rfl rfl rfl fun a hk => ?_
        show wpList _ _ _ [] _ _
        refine wpList_nil ?_
        refine hK24 _ _ ?_
        rcases cond_some H with ⟨c31, H⟩ | ⟨c31, H⟩
        · have hk := hk.lit 27 c31 rfl
          refine cnd_true hk rfl rfl ?_
          apply wp_seq_k; intro K32 hK32
          apply wp_region_lit
          refine sln [.slice A0_0 x0.Sure.length p0_0, .slice A0_1 x0.Unsure.length p0_1] rfl hk rfl rfl rfl ag35 sz35 (box_cells hs (k := 3) rfl) fun a hk => ?_
          obtain ⟨y33, h34, H⟩ := bind_some H
          refine sc rfl en80 hk rfl rfl rfl (impl_Device_own_t _ x0 A0_0 p0_0 _ v0_0 (hs.hasD (k := 1) rfl) A0_1 p0_1 _ v0_1 (hs.hasD (k := 2) rfl) _ h34) ?_
          rintro _ w ⟨A35, p36, k37, A39, p40, k41, rfl, o38, o42, hG⟩ a hk
          have hs := hs.call0k hG [10, 11] rfl
          refine ssw 4 hs rfl rfl hk rfl rfl rfl rfl sz35 (by simp [Value.oneCell']) rfl fun w a hk hs => ?_
          refine sa _ rfl hk rfl rfl rfl fun a hk => ?_
          show wpList _ _ _ [] _ _
          refine wpList_nil ?_
          refine hK32 _ _ ?_
          refine wp_ret ?_
          obtain rfl := Option.some.inj H
          exact fin hk _ [(.agg #[.slice A35 y33.Sure.length p36, .slice A39 y33.Unsure.length p40]), (.int .i64 5)] rfl ⟨⟨_, rfl, run_loadN ag35 sz35 (box_cells hs (k := 4) rfl)⟩, ⟨rfl, trivial⟩⟩ ⟨A35, p36, _, A39, p40, _, rfl, o38, o42, (hs.pick [(0, 10), (1, 11)] rfl).dnil⟩
        · have hk := hk.lit 27 c31 rfl
          refine cnd_false hk rfl rfl ?_
          refine wp_skip ?_
          refine hK4 _ _ ?_
          apply wp_seq_k; intro K43 hK43
          apply wp_region_lit
          refine sln [.slice A0_0 x0.Sure.length p0_0, .slice A0_1 x0.Unsure.length p0_1] rfl hk rfl rfl rfl ag35 sz35 (box_cells hs (k := 3) rfl) fun a hk => ?_
          obtain ⟨y44, h45, H⟩ := bind_some H
          refine sc rfl en80 hk rfl rfl rfl (impl_Device_own_t _ x0 A0_0 p0_0 _ v0_0 (hs.hasD (k := 1) rfl) A0_1 p0_1 _ v0_1 (hs.hasD (k := 2) rfl) _ h45) ?_
          rintro _ w ⟨A46, p47, k48, A50, p51, k52, rfl, o49, o53, hG⟩ a hk
          have hs := hs.call0k hG [12, 13] rfl
          refine salx 14 hs rfl hk rfl rfl ze35 rfl fun b54 w a hk hs => ?_
          refine ssw 14 hs rfl rfl hk rfl rfl rfl rfl sz35 (by simp [Value.oneCell']) rfl fun w a hk hs => ?_
          show wpList _ _ _ [] _ _
          refine wpList_nil ?_
          refine hK43 _ _ ?_
          apply wp_seq_k; intro K55 hK55
          apply wp_region_lit
          refine sf ⟨b54, 0, none⟩ rfl hk rfl rfl rfl fd35_0 rfl fun a hk => ?_
          refine sl rfl hk rfl rfl rfl ag24 (box_cell hs (k := 14) rfl rfl) fun a hk => ?_
          refine sm _ rfl hk rfl rfl rfl fun a hk => ?_
          rcases ite_some H with ⟨c56, H⟩ | ⟨_, H⟩
          rotate_left
          · cases H
          obtain ⟨b57, q58, hAc56⟩ := (o49.view).some_ x1 c56.1 c56.2
          refine si rfl hk rfl rfl rfl rfl un24 sz9 c56.1 c56.2 hAc56 fun a hk => ?_
          obtain ⟨_, rfl, e59⟩ := (o49.view).at_ ByteArray.empty x1 c56.1 c56.2
          refine sl (v := (.string (y44.Sure.getD x1.toNat ByteArray.empty))) rfl hk rfl rfl rfl ag9 ((e59 0 _ rfl).cell (hs.hasG (k := 12) rfl)) fun a hk => ?_
          rcases ite_some H with ⟨c60, H⟩ | ⟨_, H⟩
          rotate_left
          · cases H
          refine scb 15 hs rfl hk rfl rfl rfl un9 un102 un5 c60 fun b61 p62 k63 w a hk o64 hs => ?_
          refine sa _ rfl hk rfl rfl rfl fun a hk => ?_
          show wpList _ _ _ [] _ _
          refine wpList_nil ?_
          refine hK55 _ _ ?_
          apply wp_seq_k; intro K65 hK65
          apply wp_region_lit
          refine sm _ rfl hk rfl rfl rfl fun a hk => ?_
          refine sm _ rfl hk rfl rfl rfl fun a hk => ?_
          rcases ite_some H with ⟨c66, H⟩ | ⟨_, H⟩
          rotate_left
          · cases H
          obtain ⟨b67, q68, hAc66⟩ := (o64.view).some_ x2 c66.1 c66.2
          refine si rfl hk rfl rfl rfl rfl un102 sz5 c66.1 c66.2 hAc66 fun a hk => ?_
          obtain ⟨_, rfl, e69⟩ := (o64.view).at_ 0 x2 c66.1 c66.2
          refine sl (v := (.int .u8 ((bytesOf (y44.Sure.getD x1.toNat ByteArray.empty)).getD x2.toNat 0))) rfl hk rfl rfl rfl ag5 ((e69 0 _ rfl).cell (hs.hasG (k := 15) rfl)) fun a hk => ?_
          refine sm _ rfl hk rfl rfl rfl fun a hk => ?_
          refine scn rfl hk rfl rfl rfl un5 un3 fun a hk => ?_
          refine sv (.int .u8 (IntKind.wrap .u8 ((BitVec.ofInt 8 ((bytesOf (y44.Sure.getD x1.toNat ByteArray.empty)).getD x2.toNat 0) ^^^ BitVec.ofInt 8 (IntKind.wrap .u8 x3)).toNat : Int))) hk rfl rfl rfl fun a hk => ?_
          rcases ite_some H with ⟨c70, H⟩ | ⟨_, H⟩
          rotate_left
          · cases H
          obtain ⟨b71, q72, hAc70⟩ := (o64.view).some_ x2 c70.1 c70.2
          refine si rfl hk rfl rfl rfl rfl un102 sz5 c70.1 c70.2 hAc70 fun a hk => ?_
          refine sob 15 (IntKind.wrap .u8 ((BitVec.ofInt 8 ((bytesOf (y44.Sure.getD x1.toNat ByteArray.empty)).getD x2.toNat 0) ^^^ BitVec.ofInt 8 (IntKind.wrap .u8 x3)).toNat : Int)) hs rfl o64 c70.1 c70.2 rfl hk rfl rfl rfl rfl rfl sz5 rfl rfl rfl ⟨rfl, rfl⟩ fun k73 w a hk o74 hs => ?_
          have lh75 : ((bytesOf (y44.Sure.getD x1.toNat ByteArray.empty)).set x2.toNat (IntKind.wrap .u8 ((BitVec.ofInt 8 ((bytesOf (y44.Sure.getD x1.toNat ByteArray.empty)).getD x2.toNat 0) ^^^ BitVec.ofInt 8 (IntKind.wrap .u8 x3)).toNat : Int))).length = (bytesOf (y44.Sure.getD x1.toNat ByteArray.empty)).length := by rw [List.length_set]
          show wpList _ _ _ [] _ _
          refine wpList_nil ?_
          refine hK65 _ _ ?_
          apply wp_seq_k; intro K76 hK76
          apply wp_region_lit
          refine sf ⟨b54, 0, none⟩ rfl hk rfl rfl rfl fd35_0 rfl fun a hk => ?_
          refine sl rfl hk rfl rfl rfl ag24 (box_cell hs (k := 14) rfl rfl) fun a hk => ?_
          refine sm _ rfl hk rfl rfl rfl fun a hk => ?_
          refine sm _ rfl hk rfl rfl rfl fun a hk => ?_
          refine sbt (xs := ((bytesOf (y44.Sure.getD x1.toNat ByteArray.empty)).set x2.toNat (IntKind.wrap .u8 ((BitVec.ofInt 8 ((bytesOf (y44.Sure.getD x1.toNat ByteArray.empty)).getD x2.toNat 0) ^^^ BitVec.ofInt 8 (IntKind.wrap .u8 x3)).toNat : Int)))) rfl hk rfl rfl lh75.symm rfl un102 un5 un9 o74.view (hs.hasG (k := 15) rfl) fun a hk => ?_
          rcases ite_some H with ⟨c77, H⟩ | ⟨_, H⟩
          rotate_left
          · cases H
          obtain ⟨b78, q79, hAc77⟩ := (o49.view).some_ x1 c77.1 c77.2
          refine si rfl hk rfl rfl rfl rfl un24 sz9 c77.1 c77.2 hAc77 fun a hk => ?_
          refine so (j := 0) 12 ByteArray.empty (strOfNums ((bytesOf (y44.Sure.getD x1.toNat ByteArray.empty)).set x2.toNat (IntKind.wrap .u8 ((BitVec.ofInt 8 ((bytesOf (y44.Sure.getD x1.toNat ByteArray.empty)).getD x2.toNat 0) ^^^ BitVec.ofInt 8 (IntKind.wrap .u8 x3)).toNat : Int)))) hs rfl o49 c77.1 c77.2 rfl hk rfl rfl rfl rfl rfl sz9 (by simp [Value.cells, Value.oneCell']) (Nat.le_of_ble_eq_true rfl) (fun _ _ h => ⟨by rw [h.1]; rfl, h.2⟩) fun k80 w a hk o81 hs => ?_
          have lh82 : (y44.Sure.set x1.toNat (strOfNums ((bytesOf (y44.Sure.getD x1.toNat ByteArray.empty)).set x2.toNat (IntKind.wrap .u8 ((BitVec.ofInt 8 ((bytesOf (y44.Sure.getD x1.toNat ByteArray.empty)).getD x2.toNat 0) ^^^ BitVec.ofInt 8 (IntKind.wrap .u8 x3)).toNat : Int))))).length = y44.Sure.length := by rw [List.length_set]
          show wpList _ _ _ [] _ _
          refine wpList_nil ?_
          refine hK76 _ _ ?_
          apply wp_seq_k; intro K83 hK83
          apply wp_region_lit
          refine sln [.slice A46 y44.Sure.length p47, .slice A50 y44.Unsure.length p51] rfl hk rfl rfl rfl ag35 sz35 (box_cells hs (k := 14) rfl) fun a hk => ?_
          refine ssw 4 hs rfl rfl hk rfl rfl rfl rfl sz35 (by simp [Value.oneCell']) rfl fun w a hk hs => ?_
          refine sa _ rfl hk rfl rfl rfl fun a hk => ?_
          show wpList _ _ _ [] _ _
          refine wpList_nil ?_
          refine hK83 _ _ ?_
          refine wp_ret ?_
          obtain rfl := Option.some.inj H
          exact fin hk _ [(.agg #[.slice A46 y44.Sure.length p47, .slice A50 y44.Unsure.length p51]), (.int .i64 0)] rfl ⟨⟨_, rfl, run_loadN ag35 sz35 (box_cells hs (k := 4) rfl)⟩, ⟨rfl, trivial⟩⟩ ⟨A46, p47, _, A50, p51, _, (by first | (rw [lh82]; done) | (rw [lh82]; rfl)), o81, o53, (hs.pick [(0, 12), (1, 13)] rfl).dnil⟩

noncomputable def laws_markText.s0  (u10 : Int) (u11 : ByteArray) : Option ((Int × ByteArray) ⊕ Ex (ByteArray) (ByteArray)) :=
  (bif (decide (u10 > 0)) then (if (strOfNums ([(IntKind.wrap .u8 (w64 (48 + (Int.tmod u10 10))))])).size + u11.size ≤ 1152921504606846976 then (some (.inl ((IntKind.wrap .i64 (Int.tdiv u10 10)), ((strOfNums ([(IntKind.wrap .u8 (w64 (48 + (Int.tmod u10 10))))])) ++ u11)))) else none) else (some (.inr (.out u11))))
noncomputable def laws_markText.f (x0 : Int) : Option (ByteArray) :=
  (bif (decide (x0 ≤ 0)) then (some (⟨#[109, 48]⟩ : ByteArray)) else ((loopO (fun s => laws_markText.s0  s.1 s.2) (x0, (⟨#[]⟩ : ByteArray))).bind fun o => match o with | .out u12 => (if (⟨#[109]⟩ : ByteArray).size + u12.size ≤ 1152921504606846976 then (some ((⟨#[109]⟩ : ByteArray) ++ u12)) else none) | .ret r => (some r)))
set_option maxRecDepth 100000 in
set_option maxHeartbeats 0 in
theorem laws_markText_t (w0 : World) (x0 : Int) (r : ByteArray) (H : laws_markText.f x0 = some r) :
    Calls Try.prog 121 #[.int .i64 x0] w0 (Ret (fun v w => v = .string r ∧ Sat [] w0 w [] [])) := by
  have hs : Sat [] w0 w0 [] [] := Sat.init w0 [] [] (by simp) (by simp) List.nodup_nil (by simp [blks])
  unfold laws_markText.f at H
  refine enter Try.func121 rfl Try.ntmps121 rfl fun a hk => ?_
  apply wp_seq_k; intro K1 hK1
  apply wp_region_lit
  refine sa _ rfl hk rfl rfl rfl fun a hk => ?_
  show wpList _ _ _ [] _ _
  refine wpList_nil ?_
  refine hK1 _ _ ?_
  apply wp_seq_k; intro K2 hK2
  apply wp_seq_k; intro K3 hK3
  apply wp_region_lit
  refine sm _ rfl hk rfl rfl rfl fun a hk => ?_
  refine sv (.bool (decide (x0 ≤ 0))) hk rfl rfl rfl fun a hk => ?_
  show wpList _ _ _ [] _ _
  refine wpList_nil ?_
  refine hK3 _ _ ?_
  rcases cond_some H with ⟨c4, H⟩ | ⟨c4, H⟩
  · have hk := hk.lit 5 c4 rfl
    refine cnd_true hk rfl rfl ?_
    apply wp_seq_k; intro K5 hK5
    apply wp_region_lit
    refine sa _ rfl hk rfl rfl rfl fun a hk => ?_
    show wpList _ _ _ [] _ _
    refine wpList_nil ?_
    refine hK5 _ _ ?_
    refine wp_ret ?_
    obtain rfl := Option.some.inj H
    exact fin hk _ [(.string (⟨#[109, 48]⟩ : ByteArray))] rfl ⟨rfl, trivial⟩ ⟨rfl, (hs.pick [] rfl).dnil⟩
  · have hk := hk.lit 5 c4 rfl
    refine cnd_false hk rfl rfl ?_
    refine wp_skip ?_
    refine hK2 _ _ ?_
    apply wp_seq_k; intro K6 hK6
    apply wp_region_lit
    refine sa _ rfl hk rfl rfl rfl fun a hk => ?_
    show wpList _ _ _ [] _ _
    refine wpList_nil ?_
    refine hK6 _ _ ?_
    apply wp_seq_k; intro K7 hK7
    obtain ⟨o13, h14, HL15⟩ := bind_some H
    clear H
    obtain ⟨R16, hR16⟩ : ∃ R : Act → World → Prop, R = fun a w => ∃ (u12 : ByteArray), o13 = .out u12 ∧ Kn [(3, (.string u12))] 20 a ∧ Sat [] w0 w [] [] := ⟨_, rfl⟩
    refine wp_cutq R16 ?_ ?_
    · refine wp_block ?_
      obtain ⟨fu18, h14⟩ := loopO_some h14
      obtain ⟨I17, hI17⟩ : ∃ I : Nat → Act → World → Prop, I = fun fu a w => ∃ (u10 : Int) (u11 : ByteArray), loopN (fun s => laws_markText.s0  s.1 s.2) fu (u10, u11) = some o13 ∧ Kn [(0, (.int .i64 u10)), (3, (.string u11))] 20 a ∧ Sat [] w0 w [] [] := ⟨_, rfl⟩
      refine wp_loop_ghost I17 fu18 ?_ ?_
      · rw [hI17]
        exact ⟨x0, (⟨#[]⟩ : ByteArray), h14, (hk.c 0 rfl (hk.c 3 rfl hk.k)), (hs.pick [] rfl)⟩
      · clear h14 hk hs
        intro fu18 a w hI0
        rw [hI17] at hI0
        obtain ⟨u10, u11, hi, hk, hs⟩ := hI0
        obtain ⟨x19, H, h20⟩ := loop_round hi
        try dsimp only at H
        unfold laws_markText.s0 at H
        apply wp_seq_k; intro K21 hK21
        apply wp_seq_k; intro K22 hK22
        apply wp_region_lit
        refine sm _ rfl hk rfl rfl rfl fun a hk => ?_
        refine sv (.bool (decide (u10 > 0))) hk rfl rfl rfl fun a hk => ?_
        show wpList _ _ _ [] _ _
        refine wpList_nil ?_
        refine hK22 _ _ ?_
        rcases cond_some H with ⟨c23, H⟩ | ⟨c23, H⟩
        · have hk := hk.lit 7 c23 rfl
          refine cnd_true hk rfl rfl ?_
          refine wp_skip ?_
          refine hK21 _ _ ?_
          refine wp_block ?_
          apply wp_seq_k; intro K24 hK24
          apply wp_region_lit
          refine sm _ rfl hk rfl rfl rfl fun a hk => ?_
          refine sv (.int .i64 (Int.tmod u10 10)) hk rfl rfl rfl fun a hk => ?_
          refine sv (.int .i64 (w64 (48 + (Int.tmod u10 10)))) hk rfl rfl rfl fun a hk => ?_
          refine scn rfl hk rfl rfl rfl un5 un3 fun a hk => ?_
          refine sbs (L := (Lay.int .u8)) (pv := [(0, (.int .u8 (IntKind.wrap .u8 (w64 (48 + (Int.tmod u10 10))))))]) (xs := [(IntKind.wrap .u8 (w64 (48 + (Int.tmod u10 10))))]) (ess := [[.int .u8 (IntKind.wrap .u8 (w64 (48 + (Int.tmod u10 10))))]]) 2 hs rfl hk rfl rfl rfl un102 (bs5_2 (IntKind.wrap .u8 (w64 (48 + (Int.tmod u10 10))))) (AllOwn.cons0 ⟨rfl, rfl⟩ AllOwn.nil) rfl rfl rfl fun b25 k26 w a hk o27 hs => ?_
          refine sbt (xs := ([(IntKind.wrap .u8 (w64 (48 + (Int.tmod u10 10))))])) rfl hk rfl rfl rfl rfl un102 un5 un9 o27.view (hs.hasG (k := 2) rfl) fun a hk => ?_
          refine sm _ rfl hk rfl rfl rfl fun a hk => ?_
          rcases ite_some H with ⟨c28, H⟩ | ⟨_, H⟩
          rotate_left
          · cases H
          refine ssa rfl hk rfl rfl rfl rfl c28 fun a hk => ?_
          refine sa _ rfl hk rfl rfl rfl fun a hk => ?_
          show wpList _ _ _ [] _ _
          refine wpList_nil ?_
          refine hK24 _ _ ?_
          apply wp_region_lit
          refine sm _ rfl hk rfl rfl rfl fun a hk => ?_
          refine sv (.int .i64 (IntKind.wrap .i64 (Int.tdiv u10 10))) hk rfl rfl rfl fun a hk => ?_
          refine sa _ rfl hk rfl rfl rfl fun a hk => ?_
          show wpList _ _ _ [] _ _
          refine wpList_nil ?_
          obtain rfl := Option.some.inj H
          obtain ⟨m29, hmm29, h20⟩ := h20
          show ∃ n', n' < _ ∧ I17 n' _ _
          refine ⟨m29, hmm29, ?_⟩
          rw [hI17]
          exact ⟨(IntKind.wrap .i64 (Int.tdiv u10 10)), ((strOfNums ([(IntKind.wrap .u8 (w64 (48 + (Int.tmod u10 10))))])) ++ u11), h20, (hk.c 0 rfl (hk.c 3 rfl hk.k)), (hs.pick [] rfl)⟩
        · have hk := hk.lit 7 c23 rfl
          refine cnd_false hk rfl rfl ?_
          refine wp_exit ?_
          obtain rfl := Option.some.inj H
          show R16 _ _
          rw [hR16]
          exact ⟨u11, h20.symm, (hk.c 3 rfl hk.k), (hs.pick [] rfl)⟩
    · intro a w hR0
      rw [hR16] at hR0
      obtain ⟨u12, rfl, hk, hs⟩ := hR0
      have H := HL15
      try dsimp only at H
      refine hK7 _ _ ?_
      apply wp_seq_k; intro K30 hK30
      apply wp_region_lit
      refine sm _ rfl hk rfl rfl rfl fun a hk => ?_
      rcases ite_some H with ⟨c31, H⟩ | ⟨_, H⟩
      rotate_left
      · cases H
      refine ssa rfl hk rfl rfl rfl rfl c31 fun a hk => ?_
      refine sa _ rfl hk rfl rfl rfl fun a hk => ?_
      show wpList _ _ _ [] _ _
      refine wpList_nil ?_
      refine hK30 _ _ ?_
      refine wp_ret ?_
      obtain rfl := Option.some.inj H
      exact fin hk _ [(.string ((⟨#[109]⟩ : ByteArray) ++ u12))] rfl ⟨rfl, trivial⟩ ⟨rfl, (hs.pick [] rfl).dnil⟩

noncomputable def laws_markStringS.s0 (l0 : List ByteArray) (u6 : List ByteArray) (u10 : Int) (u11 : Int) : Option (((List ByteArray) × Int × Int) ⊕ Ex ((List ByteArray) × Int) (Int × (List ByteArray))) :=
  (bif (decide (u11 < (l0.length : Int))) then ((laws_markText.f u10).bind fun y30 => (if 0 ≤ u11 ∧ u11 < (l0.length : Int) then (some (.inl ((u6.set u11.toNat y30), (w64 (u10 + 1)), (w64 (u11 + 1))))) else none)) else (some (.inr (.out (u6, u10)))))
noncomputable def laws_markStringS.f (l0 : List ByteArray) (x1 : Int) : Option (Int × (List ByteArray)) :=
  ((loopO (fun s => laws_markStringS.s0 l0 s.1 s.2.1 s.2.2) (l0, x1, 0)).bind fun o => match o with | .out (u12, u16) => (some (u16, u12)) | .ret r => (some r))
set_option maxRecDepth 100000 in
set_option maxHeartbeats 0 in
theorem laws_markStringS_t (w0 : World) (A0_ : Option Addr) (p0_ : Nat) (l0 : List ByteArray) (k0_ : Chunk) (v0_ : Own Lay.str 9 A0_ p0_ l0 k0_) (x1 : Int) (hs0 : Sat (blks [(1, k0_)]) w0 w0 [] [(1, k0_)]) (r : Int × (List ByteArray)) (H : laws_markStringS.f l0 x1 = some r) :
    Calls Try.prog 83 #[.slice A0_ l0.length p0_, .int .i64 x1] w0 (Ret (fun v w => ∃ (k0 : Chunk), v = .int .i64 r.1 ∧ (Own Lay.str 9 A0_ p0_ r.2 k0 ∧ r.2.length = l0.length) ∧ Sat (blks [(1, k0_)]) w0 w [] [(0, k0)])) := by
  have hs := hs0
  unfold laws_markStringS.f at H
  refine enter Try.func83 rfl Try.ntmps83 rfl fun a hk => ?_
  apply wp_seq_k; intro K1 hK1
  apply wp_region_lit
  refine sa _ rfl hk rfl rfl rfl fun a hk => ?_
  show wpList _ _ _ [] _ _
  refine wpList_nil ?_
  refine hK1 _ _ ?_
  apply wp_seq_k; intro K2 hK2
  apply wp_seq_k; intro K3 hK3
  apply wp_region_lit
  refine sa _ rfl hk rfl rfl rfl fun a hk => ?_
  show wpList _ _ _ [] _ _
  refine wpList_nil ?_
  refine hK3 _ _ ?_
  obtain ⟨o17, h18, HL19⟩ := bind_some H
  clear H
  obtain ⟨R20, hR20⟩ : ∃ R : Act → World → Prop, R = fun a w => ∃ (u12 : List ByteArray) (u16 : Int) (k13 : Chunk), o17 = .out (u12, u16) ∧ Kn [(0, (.slice A0_ l0.length p0_)), (1, (.int .i64 u16))] 20 a ∧ Sat (blks [(1, k0_)]) w0 w [] [(1, k13)] ∧ Own Lay.str 9 A0_ p0_ u12 k13 ∧ u12.length = l0.length := ⟨_, rfl⟩
  refine wp_cutq R20 ?_ ?_
  · refine wp_block ?_
    obtain ⟨fu22, h18⟩ := loopO_some h18
    obtain ⟨I21, hI21⟩ : ∃ I : Nat → Act → World → Prop, I = fun fu a w => ∃ (u6 : List ByteArray) (u10 : Int) (u11 : Int) (k7 : Chunk), loopN (fun s => laws_markStringS.s0 l0 s.1 s.2.1 s.2.2) fu (u6, u10, u11) = some o17 ∧ Kn [(0, (.slice A0_ l0.length p0_)), (1, (.int .i64 u10)), (5, (.int .i64 u11))] 20 a ∧ Sat (blks [(1, k0_)]) w0 w [] [(1, k7)] ∧ Own Lay.str 9 A0_ p0_ u6 k7 ∧ u6.length = l0.length := ⟨_, rfl⟩
    refine wp_loop_ghost I21 fu22 ?_ ?_
    · rw [hI21]
      exact ⟨l0, x1, 0, _, h18, (hk.c 0 rfl (hk.c 1 rfl (hk.c 5 rfl hk.k))), (hs.pick [(1, 1)] rfl), v0_, rfl⟩
    · clear h18 hk hs
      intro fu22 a w hI0
      rw [hI21] at hI0
      obtain ⟨u6, u10, u11, k7, hi, hk, hs, o8, lh9⟩ := hI0
      obtain ⟨x23, H, h24⟩ := loop_round hi
      try dsimp only at H
      unfold laws_markStringS.s0 at H
      apply wp_seq_k; intro K25 hK25
      apply wp_seq_k; intro K26 hK26
      apply wp_region_lit
      refine sm _ rfl hk rfl rfl rfl fun a hk => ?_
      refine sm _ rfl hk rfl rfl rfl fun a hk => ?_
      refine sle rfl hk rfl rfl rfl un24 fun a hk => ?_
      refine sv (.bool (decide (u11 < (l0.length : Int)))) hk rfl rfl rfl fun a hk => ?_
      show wpList _ _ _ [] _ _
      refine wpList_nil ?_
      refine hK26 _ _ ?_
      rcases cond_some H with ⟨c27, H⟩ | ⟨c27, H⟩
      · have hk := hk.lit 9 c27 rfl
        refine cnd_true hk rfl rfl ?_
        refine wp_skip ?_
        refine hK25 _ _ ?_
        apply wp_seq_k; intro K28 hK28
        refine wp_block ?_
        apply wp_seq_k; intro K29 hK29
        apply wp_region_lit
        refine sm _ rfl hk rfl rfl rfl fun a hk => ?_
        refine sm _ rfl hk rfl rfl rfl fun a hk => ?_
        refine sm _ rfl hk rfl rfl rfl fun a hk => ?_
        obtain ⟨y30, h31, H⟩ := bind_some H
        refine sc rfl en121 hk rfl rfl rfl (laws_markText_t _ u10 _ h31) ?_
        rintro _ w ⟨rfl, hG⟩ a hk
        have hs := hs.call0 hG
        rcases ite_some H with ⟨c32, H⟩ | ⟨_, H⟩
        rotate_left
        · cases H
        obtain ⟨b33, q34, hAc32⟩ := (o8.view).some_ u11 c32.1 (by rw [lh9]; exact c32.2)
        refine si rfl hk rfl rfl rfl rfl un24 sz9 c32.1 c32.2 hAc32 fun a hk => ?_
        refine so (j := 0) 1 ByteArray.empty y30 hs rfl o8 c32.1 (by rw [lh9]; exact c32.2) rfl hk rfl rfl rfl rfl rfl sz9 (by simp [Value.cells, Value.oneCell']) (Nat.le_of_ble_eq_true rfl) (fun _ _ h => ⟨by rw [h.1]; rfl, h.2⟩) fun k35 w a hk o36 hs => ?_
        have lh37 : (u6.set u11.toNat y30).length = l0.length := by rw [List.length_set]; exact lh9
        show wpList _ _ _ [] _ _
        refine wpList_nil ?_
        refine hK29 _ _ ?_
        apply wp_region_lit
        refine sm _ rfl hk rfl rfl rfl fun a hk => ?_
        refine sv (.int .i64 (w64 (u10 + 1))) hk rfl rfl rfl fun a hk => ?_
        refine sa _ rfl hk rfl rfl rfl fun a hk => ?_
        show wpList _ _ _ [] _ _
        refine wpList_nil ?_
        refine hK28 _ _ ?_
        apply wp_region_lit
        refine sm _ rfl hk rfl rfl rfl fun a hk => ?_
        refine sv (.int .i64 (w64 (u11 + 1))) hk rfl rfl rfl fun a hk => ?_
        refine sa _ rfl hk rfl rfl rfl fun a hk => ?_
        show wpList _ _ _ [] _ _
        refine wpList_nil ?_
        obtain rfl := Option.some.inj H
        obtain ⟨m38, hmm38, h24⟩ := h24
        show ∃ n', n' < _ ∧ I21 n' _ _
        refine ⟨m38, hmm38, ?_⟩
        rw [hI21]
        exact ⟨(u6.set u11.toNat y30), (w64 (u10 + 1)), (w64 (u11 + 1)), _, h24, (hk.c 0 rfl (hk.c 1 rfl (hk.c 5 rfl hk.k))), (hs.pick [(1, 1)] rfl), o36, lh37⟩
      · have hk := hk.lit 9 c27 rfl
        refine cnd_false hk rfl rfl ?_
        refine wp_exit ?_
        obtain rfl := Option.some.inj H
        show R20 _ _
        rw [hR20]
        exact ⟨u6, u10, _, h24.symm, (hk.c 0 rfl (hk.c 1 rfl hk.k)), (hs.pick [(1, 1)] rfl), o8, lh9⟩
  · intro a w hR0
    rw [hR20] at hR0
    obtain ⟨u12, u16, k13, rfl, hk, hs, o14, lh15⟩ := hR0
    have H := HL19
    try dsimp only at H
    refine hK2 _ _ ?_
    apply wp_seq_k; intro K39 hK39
    apply wp_region_lit
    refine sm _ rfl hk rfl rfl rfl fun a hk => ?_
    refine sa _ rfl hk rfl rfl rfl fun a hk => ?_
    show wpList _ _ _ [] _ _
    refine wpList_nil ?_
    refine hK39 _ _ ?_
    refine wp_ret ?_
    obtain rfl := Option.some.inj H
    exact fin hk _ [(.int .i64 u16)] rfl ⟨rfl, trivial⟩ ⟨_, rfl, ⟨o14, lh15⟩, (hs.pick [(0, 1)] rfl).dnil⟩

noncomputable def laws_markIoS.s0 (l0 : List S_Io) (u6 : List S_Io) (u10 : Int) (u11 : Int) : Option (((List S_Io) × Int × Int) ⊕ Ex ((List S_Io) × Int) (Int × (List S_Io))) :=
  (bif (decide (u11 < (l0.length : Int))) then (if 0 ≤ u11 ∧ u11 < (l0.length : Int) then ((laws_markText.f (w64 (u10 + 1))).bind fun y38 => (if 0 ≤ u11 ∧ u11 < (l0.length : Int) then (some (.inl (((u6.set u11.toNat (⟨u10, (u6.getD u11.toNat z_Io).Data⟩ : S_Io)).set u11.toNat (⟨((u6.set u11.toNat (⟨u10, (u6.getD u11.toNat z_Io).Data⟩ : S_Io)).getD u11.toNat z_Io).At, y38⟩ : S_Io)), (w64 ((w64 (u10 + 1)) + 1)), (w64 (u11 + 1))))) else none)) else none) else (some (.inr (.out (u6, u10)))))
noncomputable def laws_markIoS.f (l0 : List S_Io) (x1 : Int) : Option (Int × (List S_Io)) :=
  ((loopO (fun s => laws_markIoS.s0 l0 s.1 s.2.1 s.2.2) (l0, x1, 0)).bind fun o => match o with | .out (u12, u16) => (some (u16, u12)) | .ret r => (some r))
set_option maxRecDepth 100000 in
set_option maxHeartbeats 0 in
theorem laws_markIoS_t (w0 : World) (A0_ : Option Addr) (p0_ : Nat) (l0 : List S_Io) (k0_ : Chunk) (v0_ : Own L_Io 114 A0_ p0_ l0 k0_) (x1 : Int) (hs0 : Sat (blks [(1, k0_)]) w0 w0 [] [(1, k0_)]) (r : Int × (List S_Io)) (H : laws_markIoS.f l0 x1 = some r) :
    Calls Try.prog 84 #[.slice A0_ l0.length p0_, .int .i64 x1] w0 (Ret (fun v w => ∃ (k0 : Chunk), v = .int .i64 r.1 ∧ (Own L_Io 114 A0_ p0_ r.2 k0 ∧ r.2.length = l0.length) ∧ Sat (blks [(1, k0_)]) w0 w [] [(0, k0)])) := by
  have hs := hs0
  unfold laws_markIoS.f at H
  refine enter Try.func84 rfl Try.ntmps84 rfl fun a hk => ?_
  apply wp_seq_k; intro K1 hK1
  apply wp_region_lit
  refine sa _ rfl hk rfl rfl rfl fun a hk => ?_
  show wpList _ _ _ [] _ _
  refine wpList_nil ?_
  refine hK1 _ _ ?_
  apply wp_seq_k; intro K2 hK2
  apply wp_seq_k; intro K3 hK3
  apply wp_region_lit
  refine sa _ rfl hk rfl rfl rfl fun a hk => ?_
  show wpList _ _ _ [] _ _
  refine wpList_nil ?_
  refine hK3 _ _ ?_
  obtain ⟨o17, h18, HL19⟩ := bind_some H
  clear H
  obtain ⟨R20, hR20⟩ : ∃ R : Act → World → Prop, R = fun a w => ∃ (u12 : List S_Io) (u16 : Int) (k13 : Chunk), o17 = .out (u12, u16) ∧ Kn [(0, (.slice A0_ l0.length p0_)), (1, (.int .i64 u16))] 28 a ∧ Sat (blks [(1, k0_)]) w0 w [] [(1, k13)] ∧ Own L_Io 114 A0_ p0_ u12 k13 ∧ u12.length = l0.length := ⟨_, rfl⟩
  refine wp_cutq R20 ?_ ?_
  · refine wp_block ?_
    obtain ⟨fu22, h18⟩ := loopO_some h18
    obtain ⟨I21, hI21⟩ : ∃ I : Nat → Act → World → Prop, I = fun fu a w => ∃ (u6 : List S_Io) (u10 : Int) (u11 : Int) (k7 : Chunk), loopN (fun s => laws_markIoS.s0 l0 s.1 s.2.1 s.2.2) fu (u6, u10, u11) = some o17 ∧ Kn [(0, (.slice A0_ l0.length p0_)), (1, (.int .i64 u10)), (5, (.int .i64 u11))] 28 a ∧ Sat (blks [(1, k0_)]) w0 w [] [(1, k7)] ∧ Own L_Io 114 A0_ p0_ u6 k7 ∧ u6.length = l0.length := ⟨_, rfl⟩
    refine wp_loop_ghost I21 fu22 ?_ ?_
    · rw [hI21]
      exact ⟨l0, x1, 0, _, h18, (hk.c 0 rfl (hk.c 1 rfl (hk.c 5 rfl hk.k))), (hs.pick [(1, 1)] rfl), v0_, rfl⟩
    · clear h18 hk hs
      intro fu22 a w hI0
      rw [hI21] at hI0
      obtain ⟨u6, u10, u11, k7, hi, hk, hs, o8, lh9⟩ := hI0
      obtain ⟨x23, H, h24⟩ := loop_round hi
      try dsimp only at H
      unfold laws_markIoS.s0 at H
      apply wp_seq_k; intro K25 hK25
      apply wp_seq_k; intro K26 hK26
      apply wp_region_lit
      refine sm _ rfl hk rfl rfl rfl fun a hk => ?_
      refine sm _ rfl hk rfl rfl rfl fun a hk => ?_
      refine sle rfl hk rfl rfl rfl un33 fun a hk => ?_
      refine sv (.bool (decide (u11 < (l0.length : Int)))) hk rfl rfl rfl fun a hk => ?_
      show wpList _ _ _ [] _ _
      refine wpList_nil ?_
      refine hK26 _ _ ?_
      rcases cond_some H with ⟨c27, H⟩ | ⟨c27, H⟩
      · have hk := hk.lit 9 c27 rfl
        refine cnd_true hk rfl rfl ?_
        refine wp_skip ?_
        refine hK25 _ _ ?_
        apply wp_seq_k; intro K28 hK28
        refine wp_block ?_
        apply wp_seq_k; intro K29 hK29
        apply wp_region_lit
        refine sm _ rfl hk rfl rfl rfl fun a hk => ?_
        refine sm _ rfl hk rfl rfl rfl fun a hk => ?_
        refine sm _ rfl hk rfl rfl rfl fun a hk => ?_
        rcases ite_some H with ⟨c30, H⟩ | ⟨_, H⟩
        rotate_left
        · cases H
        obtain ⟨b31, q32, hAc30⟩ := (o8.view).some_ u11 c30.1 (by rw [lh9]; exact c30.2)
        refine si rfl hk rfl rfl rfl rfl un33 sz114 c30.1 c30.2 hAc30 fun a hk => ?_
        refine sf (padd A0_ (u11.toNat * 2 + 0)) rfl hk rfl rfl rfl fd114_0 (padd_add _ _ _) fun a hk => ?_
        refine so (j := 0) 1 z_Io (⟨u10, (u6.getD u11.toNat z_Io).Data⟩ : S_Io) hs rfl o8 c30.1 (by rw [lh9]; exact c30.2) rfl hk rfl rfl rfl rfl rfl sz3 (by simp [Value.cells, Value.oneCell']) (Nat.le_of_ble_eq_true rfl) (fun _ _ h => ⟨by rw [h.1]; rfl, h.2⟩) fun k33 w a hk o34 hs => ?_
        have lh35 : (u6.set u11.toNat (⟨u10, (u6.getD u11.toNat z_Io).Data⟩ : S_Io)).length = l0.length := by rw [List.length_set]; exact lh9
        show wpList _ _ _ [] _ _
        refine wpList_nil ?_
        refine hK29 _ _ ?_
        apply wp_seq_k; intro K36 hK36
        apply wp_region_lit
        refine sm _ rfl hk rfl rfl rfl fun a hk => ?_
        refine sv (.int .i64 (w64 (u10 + 1))) hk rfl rfl rfl fun a hk => ?_
        refine sa _ rfl hk rfl rfl rfl fun a hk => ?_
        show wpList _ _ _ [] _ _
        refine wpList_nil ?_
        refine hK36 _ _ ?_
        apply wp_seq_k; intro K37 hK37
        apply wp_region_lit
        refine sm _ rfl hk rfl rfl rfl fun a hk => ?_
        refine sm _ rfl hk rfl rfl rfl fun a hk => ?_
        refine sm _ rfl hk rfl rfl rfl fun a hk => ?_
        obtain ⟨y38, h39, H⟩ := bind_some H
        refine sc rfl en121 hk rfl rfl rfl (laws_markText_t _ (w64 (u10 + 1)) _ h39) ?_
        rintro _ w ⟨rfl, hG⟩ a hk
        have hs := hs.call0 hG
        rcases ite_some H with ⟨c40, H⟩ | ⟨_, H⟩
        rotate_left
        · cases H
        obtain ⟨b41, q42, hAc40⟩ := (o34.view).some_ u11 c40.1 (by rw [lh35]; exact c40.2)
        refine si rfl hk rfl rfl rfl rfl un33 sz114 c40.1 c40.2 hAc40 fun a hk => ?_
        refine sf (padd A0_ (u11.toNat * 2 + 1)) rfl hk rfl rfl rfl fd114_1 (padd_add _ _ _) fun a hk => ?_
        refine so (j := 1) 1 z_Io (⟨((u6.set u11.toNat (⟨u10, (u6.getD u11.toNat z_Io).Data⟩ : S_Io)).getD u11.toNat z_Io).At, y38⟩ : S_Io) hs rfl o34 c40.1 (by rw [lh35]; exact c40.2) rfl hk rfl rfl rfl rfl rfl sz9 (by simp [Value.cells, Value.oneCell']) (Nat.le_of_ble_eq_true rfl) (fun _ _ h => ⟨by rw [h.1]; rfl, h.2⟩) fun k43 w a hk o44 hs => ?_
        have lh45 : ((u6.set u11.toNat (⟨u10, (u6.getD u11.toNat z_Io).Data⟩ : S_Io)).set u11.toNat (⟨((u6.set u11.toNat (⟨u10, (u6.getD u11.toNat z_Io).Data⟩ : S_Io)).getD u11.toNat z_Io).At, y38⟩ : S_Io)).length = l0.length := by rw [List.length_set]; exact lh35
        show wpList _ _ _ [] _ _
        refine wpList_nil ?_
        refine hK37 _ _ ?_
        apply wp_region_lit
        refine sm _ rfl hk rfl rfl rfl fun a hk => ?_
        refine sv (.int .i64 (w64 ((w64 (u10 + 1)) + 1))) hk rfl rfl rfl fun a hk => ?_
        refine sa _ rfl hk rfl rfl rfl fun a hk => ?_
        show wpList _ _ _ [] _ _
        refine wpList_nil ?_
        refine hK28 _ _ ?_
        apply wp_region_lit
        refine sm _ rfl hk rfl rfl rfl fun a hk => ?_
        refine sv (.int .i64 (w64 (u11 + 1))) hk rfl rfl rfl fun a hk => ?_
        refine sa _ rfl hk rfl rfl rfl fun a hk => ?_
        show wpList _ _ _ [] _ _
        refine wpList_nil ?_
        obtain rfl := Option.some.inj H
        obtain ⟨m46, hmm46, h24⟩ := h24
        show ∃ n', n' < _ ∧ I21 n' _ _
        refine ⟨m46, hmm46, ?_⟩
        rw [hI21]
        exact ⟨((u6.set u11.toNat (⟨u10, (u6.getD u11.toNat z_Io).Data⟩ : S_Io)).set u11.toNat (⟨((u6.set u11.toNat (⟨u10, (u6.getD u11.toNat z_Io).Data⟩ : S_Io)).getD u11.toNat z_Io).At, y38⟩ : S_Io)), (w64 ((w64 (u10 + 1)) + 1)), (w64 (u11 + 1)), _, h24, (hk.c 0 rfl (hk.c 1 rfl (hk.c 5 rfl hk.k))), (hs.pick [(1, 1)] rfl), o44, lh45⟩
      · have hk := hk.lit 9 c27 rfl
        refine cnd_false hk rfl rfl ?_
        refine wp_exit ?_
        obtain rfl := Option.some.inj H
        show R20 _ _
        rw [hR20]
        exact ⟨u6, u10, _, h24.symm, (hk.c 0 rfl (hk.c 1 rfl hk.k)), (hs.pick [(1, 1)] rfl), o8, lh9⟩
  · intro a w hR0
    rw [hR20] at hR0
    obtain ⟨u12, u16, k13, rfl, hk, hs, o14, lh15⟩ := hR0
    have H := HL19
    try dsimp only at H
    refine hK2 _ _ ?_
    apply wp_seq_k; intro K47 hK47
    apply wp_region_lit
    refine sm _ rfl hk rfl rfl rfl fun a hk => ?_
    refine sa _ rfl hk rfl rfl rfl fun a hk => ?_
    show wpList _ _ _ [] _ _
    refine wpList_nil ?_
    refine hK47 _ _ ?_
    refine wp_ret ?_
    obtain rfl := Option.some.inj H
    exact fin hk _ [(.int .i64 u16)] rfl ⟨rfl, trivial⟩ ⟨_, rfl, ⟨o14, lh15⟩, (hs.pick [(0, 1)] rfl).dnil⟩

noncomputable def laws_markDevice.f (x0 : S_Device) (x1 : Int) : Option (Int × (List ByteArray) × (List S_Io)) :=
  ((laws_markStringS.f x0.Sure x1).bind fun y4 => ((laws_markIoS.f x0.Unsure y4.1).bind fun y11 => (some (y11.1, y4.2, y11.2))))
set_option maxRecDepth 100000 in
set_option maxHeartbeats 0 in
theorem laws_markDevice_t (w0 : World) (x0 : S_Device) (A0_0 : Option Addr) (p0_0 : Nat) (k0_0 : Chunk) (v0_0 : Own Lay.str 9 A0_0 p0_0 x0.Sure k0_0) (A0_1 : Option Addr) (p0_1 : Nat) (k0_1 : Chunk) (v0_1 : Own L_Io 114 A0_1 p0_1 x0.Unsure k0_1) (x1 : Int) (hs0 : Sat (blks [(1, k0_0), (2, k0_1)]) w0 w0 [] [(1, k0_0), (2, k0_1)]) (r : Int × (List ByteArray) × (List S_Io)) (H : laws_markDevice.f x0 x1 = some r) :
    Calls Try.prog 33 #[.agg #[.slice A0_0 x0.Sure.length p0_0, .slice A0_1 x0.Unsure.length p0_1], .int .i64 x1] w0 (Ret (fun v w => ∃ (k0 : Chunk), ∃ (k1 : Chunk), v = .int .i64 r.1 ∧ (Own Lay.str 9 A0_0 p0_0 r.2.1 k0 ∧ r.2.1.length = x0.Sure.length) ∧ (Own L_Io 114 A0_1 p0_1 r.2.2 k1 ∧ r.2.2.length = x0.Unsure.length) ∧ Sat (blks [(1, k0_0), (2, k0_1)]) w0 w [] [(0, k0), (1, k1)])) := by
  have hs := hs0
  unfold laws_markDevice.f at H
  refine enter Try.func33 rfl Try.ntmps33 rfl fun a hk => ?_
  apply wp_seq_k; intro K1 hK1
  apply wp_region_lit
  refine sbx 3 hs rfl hk rfl rfl rfl rfl fun b2 w a hk hs => ?_
  refine sa _ rfl hk rfl rfl rfl fun a hk => ?_
  show wpList _ _ _ [] _ _
  refine wpList_nil ?_
  refine hK1 _ _ ?_
  apply wp_seq_k; intro K3 hK3
  apply wp_region_lit
  refine sf ⟨b2, 0, none⟩ rfl hk rfl rfl rfl fd35_0 rfl fun a hk => ?_
  refine sl rfl hk rfl rfl rfl ag24 (box_cell hs (k := 3) rfl rfl) fun a hk => ?_
  refine sm _ rfl hk rfl rfl rfl fun a hk => ?_
  obtain ⟨y4, h5, H⟩ := bind_some H
  refine sc rfl en83 hk rfl rfl rfl (laws_markStringS_t _ A0_0 p0_0 x0.Sure _ v0_0 x1 ((hs.hand [(1, 1)] rfl).dpick [] rfl) _ h5) ?_
  rintro _ w ⟨k6, rfl, ⟨o7, lh8⟩, hG⟩ a hk
  have hs := hs.back [(1, 1)] rfl hG [1] rfl
  have lh9 : y4.2.length = x0.Sure.length := lh8
  refine sa _ rfl hk rfl rfl rfl fun a hk => ?_
  show wpList _ _ _ [] _ _
  refine wpList_nil ?_
  refine hK3 _ _ ?_
  apply wp_seq_k; intro K10 hK10
  apply wp_region_lit
  refine sf ⟨b2, 1, none⟩ rfl hk rfl rfl rfl fd35_1 rfl fun a hk => ?_
  refine sl rfl hk rfl rfl rfl ag33 (box_cell hs (k := 3) rfl rfl) fun a hk => ?_
  refine sm _ rfl hk rfl rfl rfl fun a hk => ?_
  obtain ⟨y11, h12, H⟩ := bind_some H
  refine sc rfl en84 hk rfl rfl rfl (laws_markIoS_t _ A0_1 p0_1 x0.Unsure _ v0_1 y4.1 ((hs.hand [(1, 2)] rfl).dpick [] rfl) _ h12) ?_
  rintro _ w ⟨k13, rfl, ⟨o14, lh15⟩, hG⟩ a hk
  have hs := hs.back [(1, 2)] rfl hG [2] rfl
  have lh16 : y11.2.length = x0.Unsure.length := lh15
  refine sa _ rfl hk rfl rfl rfl fun a hk => ?_
  show wpList _ _ _ [] _ _
  refine wpList_nil ?_
  refine hK10 _ _ ?_
  apply wp_seq_k; intro K17 hK17
  apply wp_region_lit
  refine sm _ rfl hk rfl rfl rfl fun a hk => ?_
  refine sa _ rfl hk rfl rfl rfl fun a hk => ?_
  show wpList _ _ _ [] _ _
  refine wpList_nil ?_
  refine hK17 _ _ ?_
  refine wp_ret ?_
  obtain rfl := Option.some.inj H
  exact fin hk _ [(.int .i64 y11.1)] rfl ⟨rfl, trivial⟩ ⟨_, _, rfl, ⟨o7, lh9⟩, ⟨o14, lh16⟩, (hs.pick [(0, 1), (1, 2)] rfl).dnil⟩

noncomputable def laws_heldStringS.s0 (l0 : List ByteArray) (u6 : Int) (u7 : Int) : Option ((Int × Int) ⊕ Ex (Int) (Int)) :=
  (bif (decide (u7 < (l0.length : Int))) then (if 0 ≤ u7 ∧ u7 < (l0.length : Int) then ((laws_markText.f u6).bind fun y27 => (bif (!((l0.getD u7.toNat ByteArray.empty).toList == y27.toList)) then (some (.inr (.ret (-1)))) else (some (.inl ((w64 (u6 + 1)), (w64 (u7 + 1))))))) else none) else (some (.inr (.out u6))))
noncomputable def laws_heldStringS.f (l0 : List ByteArray) (x1 : Int) : Option (Int) :=
  ((loopO (fun s => laws_heldStringS.s0 l0 s.1 s.2) (x1, 0)).bind fun o => match o with | .out u8 => (some u8) | .ret r => (some r))
set_option maxRecDepth 100000 in
set_option maxHeartbeats 0 in
theorem laws_heldStringS_t (w0 : World) (A0_ : Option Addr) (p0_ : Nat) (l0 : List ByteArray) (k0_ : Chunk) (v0_ : View Lay.str A0_ p0_ l0 k0_) (w0_ : Has w0 k0_) (x1 : Int) (r : Int) (H : laws_heldStringS.f l0 x1 = some r) :
    Calls Try.prog 85 #[.slice A0_ l0.length p0_, .int .i64 x1] w0 (Ret (fun v w => v = .int .i64 r ∧ Sat [] w0 w [] [])) := by
  have hs : Sat [] w0 w0 [(1, k0_)] [] := Sat.init w0 [(1, k0_)] [] (by simp only [List.mem_cons, List.not_mem_nil, or_false]; rintro x (rfl) <;> assumption) (by simp) List.nodup_nil (by simp [blks])
  unfold laws_heldStringS.f at H
  refine enter Try.func85 rfl Try.ntmps85 rfl fun a hk => ?_
  apply wp_seq_k; intro K1 hK1
  apply wp_region_lit
  refine sa _ rfl hk rfl rfl rfl fun a hk => ?_
  show wpList _ _ _ [] _ _
  refine wpList_nil ?_
  refine hK1 _ _ ?_
  apply wp_seq_k; intro K2 hK2
  apply wp_seq_k; intro K3 hK3
  apply wp_region_lit
  refine sa _ rfl hk rfl rfl rfl fun a hk => ?_
  show wpList _ _ _ [] _ _
  refine wpList_nil ?_
  refine hK3 _ _ ?_
  obtain ⟨o9, h10, HL11⟩ := bind_some H
  clear H
  obtain ⟨R12, hR12⟩ : ∃ R : Act → World → Prop, R = fun a w => ∃ (u8 : Int), o9 = .out u8 ∧ Kn [(1, (.int .i64 u8))] 22 a ∧ Sat [] w0 w [(1, k0_)] [] := ⟨_, rfl⟩
  refine wp_cutq R12 ?_ ?_
  · refine wp_block ?_
    obtain ⟨fu14, h10⟩ := loopO_some h10
    obtain ⟨I13, hI13⟩ : ∃ I : Nat → Act → World → Prop, I = fun fu a w => ∃ (u6 : Int) (u7 : Int), loopN (fun s => laws_heldStringS.s0 l0 s.1 s.2) fu (u6, u7) = some o9 ∧ Kn [(0, (.slice A0_ l0.length p0_)), (1, (.int .i64 u6)), (5, (.int .i64 u7))] 22 a ∧ Sat [] w0 w [(1, k0_)] [] := ⟨_, rfl⟩
    refine wp_loop_ghost I13 fu14 ?_ ?_
    · rw [hI13]
      exact ⟨x1, 0, h10, (hk.c 0 rfl (hk.c 1 rfl (hk.c 5 rfl hk.k))), (hs.pick [] rfl)⟩
    · clear h10 hk hs
      intro fu14 a w hI0
      rw [hI13] at hI0
      obtain ⟨u6, u7, hi, hk, hs⟩ := hI0
      obtain ⟨x15, H, h16⟩ := loop_round hi
      try dsimp only at H
      unfold laws_heldStringS.s0 at H
      apply wp_seq_k; intro K17 hK17
      apply wp_seq_k; intro K18 hK18
      apply wp_region_lit
      refine sm _ rfl hk rfl rfl rfl fun a hk => ?_
      refine sm _ rfl hk rfl rfl rfl fun a hk => ?_
      refine sle rfl hk rfl rfl rfl un24 fun a hk => ?_
      refine sv (.bool (decide (u7 < (l0.length : Int)))) hk rfl rfl rfl fun a hk => ?_
      show wpList _ _ _ [] _ _
      refine wpList_nil ?_
      refine hK18 _ _ ?_
      rcases cond_some H with ⟨c19, H⟩ | ⟨c19, H⟩
      · have hk := hk.lit 9 c19 rfl
        refine cnd_true hk rfl rfl ?_
        refine wp_skip ?_
        refine hK17 _ _ ?_
        apply wp_seq_k; intro K20 hK20
        refine wp_block ?_
        apply wp_seq_k; intro K21 hK21
        apply wp_seq_k; intro K22 hK22
        refine wp_region_mix [(0, true), (1, true), (2, true), (3, true), (4, true), (5, true), (6, true)] mo (by kernel_rfl) hs fun _ => ?_
        have hs := hs.drew
        refine qst (.slice A0_ l0.length p0_) hk rfl rfl rfl rfl (fun w hs => sm _ rfl hk rfl rfl rfl fun a hk => qe hk) fun a hk => ?_
        refine qst (.int .i64 u7) hk rfl rfl rfl rfl (fun w hs => sm _ rfl hk rfl rfl rfl fun a hk => qe hk) fun a hk => ?_
        rcases ite_some H with ⟨c23, H⟩ | ⟨_, H⟩
        rotate_left
        · cases H
        obtain ⟨b24, q25, hAc23⟩ := (v0_).some_ u7 c23.1 c23.2
        refine qst (.pointer (some (padd A0_ (u7.toNat * 1)))) hk rfl rfl rfl rfl (fun w hs => si rfl hk rfl rfl rfl rfl un24 sz9 c23.1 c23.2 hAc23 fun a hk => qe hk) fun a hk => ?_
        obtain ⟨_, rfl, e26⟩ := (v0_).at_ ByteArray.empty u7 c23.1 c23.2
        refine qst (.string (l0.getD u7.toNat ByteArray.empty)) hk rfl rfl rfl rfl (fun w hs => sl (v := (.string (l0.getD u7.toNat ByteArray.empty))) rfl hk rfl rfl rfl ag9 ((e26 0 _ rfl).cell (hs.hasD (k := 1) rfl)) fun a hk => qe hk) fun a hk => ?_
        refine qst (.int .i64 u6) hk rfl rfl rfl rfl (fun w hs => sm _ rfl hk rfl rfl rfl fun a hk => qe hk) fun a hk => ?_
        obtain ⟨y27, h28, H⟩ := bind_some H
        refine qst (.string y27) hk rfl rfl rfl rfl (fun w hs => sc rfl en121 hk rfl rfl rfl (laws_markText_t _ u6 _ h28) fun _ w hR a hk => qc hR hk) fun a hk => ?_
        refine qst (.bool (!((l0.getD u7.toNat ByteArray.empty).toList == y27.toList))) hk rfl rfl rfl rfl (fun w hs => sv (.bool (!((l0.getD u7.toNat ByteArray.empty).toList == y27.toList))) hk rfl rfl rfl fun a hk => qe hk) fun a hk => ?_
        refine wml_nil fun w hF _ => ?_
        have hs := hs.f hF
        refine hK22 _ _ ?_
        rcases cond_some H with ⟨c29, H⟩ | ⟨c29, H⟩
        · have hk := hk.lit 18 c29 rfl
          refine cnd_true hk rfl rfl ?_
          apply wp_seq_k; intro K30 hK30
          apply wp_region_lit
          refine sa _ rfl hk rfl rfl rfl fun a hk => ?_
          show wpList _ _ _ [] _ _
          refine wpList_nil ?_
          refine hK30 _ _ ?_
          refine wp_ret ?_
          obtain rfl := Option.some.inj H
          have ho9 := h16
          try dsimp only at ho9
          subst ho9
          have H := HL11
          try dsimp only at H
          obtain rfl := Option.some.inj H
          exact fin hk _ [(.int .i64 (-1))] rfl ⟨rfl, trivial⟩ ⟨rfl, (hs.pick [] rfl).dnil⟩
        · have hk := hk.lit 18 c29 rfl
          refine cnd_false hk rfl rfl ?_
          refine wp_skip ?_
          refine hK21 _ _ ?_
          apply wp_region_lit
          refine sm _ rfl hk rfl rfl rfl fun a hk => ?_
          refine sv (.int .i64 (w64 (u6 + 1))) hk rfl rfl rfl fun a hk => ?_
          refine sa _ rfl hk rfl rfl rfl fun a hk => ?_
          show wpList _ _ _ [] _ _
          refine wpList_nil ?_
          refine hK20 _ _ ?_
          apply wp_region_lit
          refine sm _ rfl hk rfl rfl rfl fun a hk => ?_
          refine sv (.int .i64 (w64 (u7 + 1))) hk rfl rfl rfl fun a hk => ?_
          refine sa _ rfl hk rfl rfl rfl fun a hk => ?_
          show wpList _ _ _ [] _ _
          refine wpList_nil ?_
          obtain rfl := Option.some.inj H
          obtain ⟨m31, hmm31, h16⟩ := h16
          show ∃ n', n' < _ ∧ I13 n' _ _
          refine ⟨m31, hmm31, ?_⟩
          rw [hI13]
          exact ⟨(w64 (u6 + 1)), (w64 (u7 + 1)), h16, (hk.c 0 rfl (hk.c 1 rfl (hk.c 5 rfl hk.k))), (hs.pick [] rfl)⟩
      · have hk := hk.lit 9 c19 rfl
        refine cnd_false hk rfl rfl ?_
        refine wp_exit ?_
        obtain rfl := Option.some.inj H
        show R12 _ _
        rw [hR12]
        exact ⟨u6, h16.symm, (hk.c 1 rfl hk.k), (hs.pick [] rfl)⟩
  · intro a w hR0
    rw [hR12] at hR0
    obtain ⟨u8, rfl, hk, hs⟩ := hR0
    have H := HL11
    try dsimp only at H
    refine hK2 _ _ ?_
    apply wp_seq_k; intro K32 hK32
    apply wp_region_lit
    refine sm _ rfl hk rfl rfl rfl fun a hk => ?_
    refine sa _ rfl hk rfl rfl rfl fun a hk => ?_
    show wpList _ _ _ [] _ _
    refine wpList_nil ?_
    refine hK32 _ _ ?_
    refine wp_ret ?_
    obtain rfl := Option.some.inj H
    exact fin hk _ [(.int .i64 u8)] rfl ⟨rfl, trivial⟩ ⟨rfl, (hs.pick [] rfl).dnil⟩

noncomputable def laws_heldIoS.s0 (l0 : List S_Io) (u6 : Int) (u7 : Int) : Option ((Int × Int) ⊕ Ex (Int) (Int)) :=
  (bif (decide (u7 < (l0.length : Int))) then (if 0 ≤ u7 ∧ u7 < (l0.length : Int) then (bif (((l0.getD u7.toNat z_Io).At) != u6) then (some (.inr (.ret (-1)))) else (if 0 ≤ u7 ∧ u7 < (l0.length : Int) then ((laws_markText.f (w64 (u6 + 1))).bind fun y36 => (bif (!(((l0.getD u7.toNat z_Io).Data).toList == y36.toList)) then (some (.inr (.ret (-1)))) else (some (.inl ((w64 ((w64 (u6 + 1)) + 1)), (w64 (u7 + 1))))))) else none)) else none) else (some (.inr (.out u6))))
noncomputable def laws_heldIoS.f (l0 : List S_Io) (x1 : Int) : Option (Int) :=
  ((loopO (fun s => laws_heldIoS.s0 l0 s.1 s.2) (x1, 0)).bind fun o => match o with | .out u8 => (some u8) | .ret r => (some r))
set_option maxRecDepth 100000 in
set_option maxHeartbeats 0 in
theorem laws_heldIoS_t (w0 : World) (A0_ : Option Addr) (p0_ : Nat) (l0 : List S_Io) (k0_ : Chunk) (v0_ : View L_Io A0_ p0_ l0 k0_) (w0_ : Has w0 k0_) (x1 : Int) (r : Int) (H : laws_heldIoS.f l0 x1 = some r) :
    Calls Try.prog 86 #[.slice A0_ l0.length p0_, .int .i64 x1] w0 (Ret (fun v w => v = .int .i64 r ∧ Sat [] w0 w [] [])) := by
  have hs : Sat [] w0 w0 [(1, k0_)] [] := Sat.init w0 [(1, k0_)] [] (by simp only [List.mem_cons, List.not_mem_nil, or_false]; rintro x (rfl) <;> assumption) (by simp) List.nodup_nil (by simp [blks])
  unfold laws_heldIoS.f at H
  refine enter Try.func86 rfl Try.ntmps86 rfl fun a hk => ?_
  apply wp_seq_k; intro K1 hK1
  apply wp_region_lit
  refine sa _ rfl hk rfl rfl rfl fun a hk => ?_
  show wpList _ _ _ [] _ _
  refine wpList_nil ?_
  refine hK1 _ _ ?_
  apply wp_seq_k; intro K2 hK2
  apply wp_seq_k; intro K3 hK3
  apply wp_region_lit
  refine sa _ rfl hk rfl rfl rfl fun a hk => ?_
  show wpList _ _ _ [] _ _
  refine wpList_nil ?_
  refine hK3 _ _ ?_
  obtain ⟨o9, h10, HL11⟩ := bind_some H
  clear H
  obtain ⟨R12, hR12⟩ : ∃ R : Act → World → Prop, R = fun a w => ∃ (u8 : Int), o9 = .out u8 ∧ Kn [(1, (.int .i64 u8))] 32 a ∧ Sat [] w0 w [(1, k0_)] [] := ⟨_, rfl⟩
  refine wp_cutq R12 ?_ ?_
  · refine wp_block ?_
    obtain ⟨fu14, h10⟩ := loopO_some h10
    obtain ⟨I13, hI13⟩ : ∃ I : Nat → Act → World → Prop, I = fun fu a w => ∃ (u6 : Int) (u7 : Int), loopN (fun s => laws_heldIoS.s0 l0 s.1 s.2) fu (u6, u7) = some o9 ∧ Kn [(0, (.slice A0_ l0.length p0_)), (1, (.int .i64 u6)), (5, (.int .i64 u7))] 32 a ∧ Sat [] w0 w [(1, k0_)] [] := ⟨_, rfl⟩
    refine wp_loop_ghost I13 fu14 ?_ ?_
    · rw [hI13]
      exact ⟨x1, 0, h10, (hk.c 0 rfl (hk.c 1 rfl (hk.c 5 rfl hk.k))), (hs.pick [] rfl)⟩
    · clear h10 hk hs
      intro fu14 a w hI0
      rw [hI13] at hI0
      obtain ⟨u6, u7, hi, hk, hs⟩ := hI0
      obtain ⟨x15, H, h16⟩ := loop_round hi
      try dsimp only at H
      unfold laws_heldIoS.s0 at H
      apply wp_seq_k; intro K17 hK17
      apply wp_seq_k; intro K18 hK18
      apply wp_region_lit
      refine sm _ rfl hk rfl rfl rfl fun a hk => ?_
      refine sm _ rfl hk rfl rfl rfl fun a hk => ?_
      refine sle rfl hk rfl rfl rfl un33 fun a hk => ?_
      refine sv (.bool (decide (u7 < (l0.length : Int)))) hk rfl rfl rfl fun a hk => ?_
      show wpList _ _ _ [] _ _
      refine wpList_nil ?_
      refine hK18 _ _ ?_
      rcases cond_some H with ⟨c19, H⟩ | ⟨c19, H⟩
      · have hk := hk.lit 9 c19 rfl
        refine cnd_true hk rfl rfl ?_
        refine wp_skip ?_
        refine hK17 _ _ ?_
        apply wp_seq_k; intro K20 hK20
        refine wp_block ?_
        apply wp_seq_k; intro K21 hK21
        apply wp_seq_k; intro K22 hK22
        apply wp_region_lit
        refine sm _ rfl hk rfl rfl rfl fun a hk => ?_
        refine sm _ rfl hk rfl rfl rfl fun a hk => ?_
        rcases ite_some H with ⟨c23, H⟩ | ⟨_, H⟩
        rotate_left
        · cases H
        obtain ⟨b24, q25, hAc23⟩ := (v0_).some_ u7 c23.1 c23.2
        refine si rfl hk rfl rfl rfl rfl un33 sz114 c23.1 c23.2 hAc23 fun a hk => ?_
        refine sf (padd A0_ (u7.toNat * 2 + 0)) rfl hk rfl rfl rfl fd114_0 (padd_add _ _ _) fun a hk => ?_
        obtain ⟨_, rfl, e26⟩ := (v0_).at_ z_Io u7 c23.1 c23.2
        refine sl (v := (.int .i64 ((l0.getD u7.toNat z_Io).At))) rfl hk rfl rfl rfl ag3 ((e26 0 _ rfl).cell (hs.hasD (k := 1) rfl)) fun a hk => ?_
        refine sm _ rfl hk rfl rfl rfl fun a hk => ?_
        refine sv (.bool (((l0.getD u7.toNat z_Io).At) != u6)) hk rfl rfl rfl fun a hk => ?_
        show wpList _ _ _ [] _ _
        refine wpList_nil ?_
        refine hK22 _ _ ?_
        rcases cond_some H with ⟨c27, H⟩ | ⟨c27, H⟩
        · have hk := hk.lit 18 c27 rfl
          refine cnd_true hk rfl rfl ?_
          apply wp_seq_k; intro K28 hK28
          apply wp_region_lit
          refine sa _ rfl hk rfl rfl rfl fun a hk => ?_
          show wpList _ _ _ [] _ _
          refine wpList_nil ?_
          refine hK28 _ _ ?_
          refine wp_ret ?_
          obtain rfl := Option.some.inj H
          have ho9 := h16
          try dsimp only at ho9
          subst ho9
          have H := HL11
          try dsimp only at H
          obtain rfl := Option.some.inj H
          exact fin hk _ [(.int .i64 (-1))] rfl ⟨rfl, trivial⟩ ⟨rfl, (hs.pick [] rfl).dnil⟩
        · have hk := hk.lit 18 c27 rfl
          refine cnd_false hk rfl rfl ?_
          refine wp_skip ?_
          refine hK21 _ _ ?_
          apply wp_seq_k; intro K29 hK29
          apply wp_region_lit
          refine sm _ rfl hk rfl rfl rfl fun a hk => ?_
          refine sv (.int .i64 (w64 (u6 + 1))) hk rfl rfl rfl fun a hk => ?_
          refine sa _ rfl hk rfl rfl rfl fun a hk => ?_
          show wpList _ _ _ [] _ _
          refine wpList_nil ?_
          refine hK29 _ _ ?_
          apply wp_seq_k; intro K30 hK30
          apply wp_seq_k; intro K31 hK31
          refine wp_region_mix [(0, true), (1, true), (2, true), (3, true), (4, true), (5, true), (6, true), (7, true)] mo (by kernel_rfl) hs fun _ => ?_
          have hs := hs.drew
          refine qst (.slice A0_ l0.length p0_) hk rfl rfl rfl rfl (fun w hs => sm _ rfl hk rfl rfl rfl fun a hk => qe hk) fun a hk => ?_
          refine qst (.int .i64 u7) hk rfl rfl rfl rfl (fun w hs => sm _ rfl hk rfl rfl rfl fun a hk => qe hk) fun a hk => ?_
          rcases ite_some H with ⟨c32, H⟩ | ⟨_, H⟩
          rotate_left
          · cases H
          obtain ⟨b33, q34, hAc32⟩ := (v0_).some_ u7 c32.1 c32.2
          refine qst (.pointer (some (padd A0_ (u7.toNat * 2)))) hk rfl rfl rfl rfl (fun w hs => si rfl hk rfl rfl rfl rfl un33 sz114 c32.1 c32.2 hAc32 fun a hk => qe hk) fun a hk => ?_
          refine qst (.pointer (some (padd A0_ (u7.toNat * 2 + 1)))) hk rfl rfl rfl rfl (fun w hs => sf (padd A0_ (u7.toNat * 2 + 1)) rfl hk rfl rfl rfl fd114_1 (padd_add _ _ _) fun a hk => qe hk) fun a hk => ?_
          obtain ⟨_, rfl, e35⟩ := (v0_).at_ z_Io u7 c32.1 c32.2
          refine qst (.string ((l0.getD u7.toNat z_Io).Data)) hk rfl rfl rfl rfl (fun w hs => sl (v := (.string ((l0.getD u7.toNat z_Io).Data))) rfl hk rfl rfl rfl ag9 ((e35 1 _ rfl).cell (hs.hasD (k := 1) rfl)) fun a hk => qe hk) fun a hk => ?_
          refine qst (.int .i64 (w64 (u6 + 1))) hk rfl rfl rfl rfl (fun w hs => sm _ rfl hk rfl rfl rfl fun a hk => qe hk) fun a hk => ?_
          obtain ⟨y36, h37, H⟩ := bind_some H
          refine qst (.string y36) hk rfl rfl rfl rfl (fun w hs => sc rfl en121 hk rfl rfl rfl (laws_markText_t _ (w64 (u6 + 1)) _ h37) fun _ w hR a hk => qc hR hk) fun a hk => ?_
          refine qst (.bool (!(((l0.getD u7.toNat z_Io).Data).toList == y36.toList))) hk rfl rfl rfl rfl (fun w hs => sv (.bool (!(((l0.getD u7.toNat z_Io).Data).toList == y36.toList))) hk rfl rfl rfl fun a hk => qe hk) fun a hk => ?_
          refine wml_nil fun w hF _ => ?_
          have hs := hs.f hF
          refine hK31 _ _ ?_
          rcases cond_some H with ⟨c38, H⟩ | ⟨c38, H⟩
          · have hk := hk.lit 28 c38 rfl
            refine cnd_true hk rfl rfl ?_
            apply wp_seq_k; intro K39 hK39
            apply wp_region_lit
            refine sa _ rfl hk rfl rfl rfl fun a hk => ?_
            show wpList _ _ _ [] _ _
            refine wpList_nil ?_
            refine hK39 _ _ ?_
            refine wp_ret ?_
            obtain rfl := Option.some.inj H
            have ho9 := h16
            try dsimp only at ho9
            subst ho9
            have H := HL11
            try dsimp only at H
            obtain rfl := Option.some.inj H
            exact fin hk _ [(.int .i64 (-1))] rfl ⟨rfl, trivial⟩ ⟨rfl, (hs.pick [] rfl).dnil⟩
          · have hk := hk.lit 28 c38 rfl
            refine cnd_false hk rfl rfl ?_
            refine wp_skip ?_
            refine hK30 _ _ ?_
            apply wp_region_lit
            refine sm _ rfl hk rfl rfl rfl fun a hk => ?_
            refine sv (.int .i64 (w64 ((w64 (u6 + 1)) + 1))) hk rfl rfl rfl fun a hk => ?_
            refine sa _ rfl hk rfl rfl rfl fun a hk => ?_
            show wpList _ _ _ [] _ _
            refine wpList_nil ?_
            refine hK20 _ _ ?_
            apply wp_region_lit
            refine sm _ rfl hk rfl rfl rfl fun a hk => ?_
            refine sv (.int .i64 (w64 (u7 + 1))) hk rfl rfl rfl fun a hk => ?_
            refine sa _ rfl hk rfl rfl rfl fun a hk => ?_
            show wpList _ _ _ [] _ _
            refine wpList_nil ?_
            obtain rfl := Option.some.inj H
            obtain ⟨m40, hmm40, h16⟩ := h16
            show ∃ n', n' < _ ∧ I13 n' _ _
            refine ⟨m40, hmm40, ?_⟩
            rw [hI13]
            exact ⟨(w64 ((w64 (u6 + 1)) + 1)), (w64 (u7 + 1)), h16, (hk.c 0 rfl (hk.c 1 rfl (hk.c 5 rfl hk.k))), (hs.pick [] rfl)⟩
      · have hk := hk.lit 9 c19 rfl
        refine cnd_false hk rfl rfl ?_
        refine wp_exit ?_
        obtain rfl := Option.some.inj H
        show R12 _ _
        rw [hR12]
        exact ⟨u6, h16.symm, (hk.c 1 rfl hk.k), (hs.pick [] rfl)⟩
  · intro a w hR0
    rw [hR12] at hR0
    obtain ⟨u8, rfl, hk, hs⟩ := hR0
    have H := HL11
    try dsimp only at H
    refine hK2 _ _ ?_
    apply wp_seq_k; intro K41 hK41
    apply wp_region_lit
    refine sm _ rfl hk rfl rfl rfl fun a hk => ?_
    refine sa _ rfl hk rfl rfl rfl fun a hk => ?_
    show wpList _ _ _ [] _ _
    refine wpList_nil ?_
    refine hK41 _ _ ?_
    refine wp_ret ?_
    obtain rfl := Option.some.inj H
    exact fin hk _ [(.int .i64 u8)] rfl ⟨rfl, trivial⟩ ⟨rfl, (hs.pick [] rfl).dnil⟩

noncomputable def laws_heldDevice.f (x0 : S_Device) (x1 : Int) : Option (Int) :=
  ((laws_heldStringS.f x0.Sure x1).bind fun y4 => (bif (decide (y4 < 0)) then (some (-1)) else ((laws_heldIoS.f x0.Unsure y4).bind fun y11 => (bif (decide (y11 < 0)) then (some (-1)) else (some y11)))))
set_option maxRecDepth 100000 in
set_option maxHeartbeats 0 in
theorem laws_heldDevice_t (w0 : World) (x0 : S_Device) (A0_0 : Option Addr) (p0_0 : Nat) (k0_0 : Chunk) (v0_0 : View Lay.str A0_0 p0_0 x0.Sure k0_0) (w0_0 : Has w0 k0_0) (A0_1 : Option Addr) (p0_1 : Nat) (k0_1 : Chunk) (v0_1 : View L_Io A0_1 p0_1 x0.Unsure k0_1) (w0_1 : Has w0 k0_1) (x1 : Int) (r : Int) (H : laws_heldDevice.f x0 x1 = some r) :
    Calls Try.prog 34 #[.agg #[.slice A0_0 x0.Sure.length p0_0, .slice A0_1 x0.Unsure.length p0_1], .int .i64 x1] w0 (Ret (fun v w => v = .int .i64 r ∧ Sat [] w0 w [] [])) := by
  have hs : Sat [] w0 w0 [(1, k0_0), (2, k0_1)] [] := Sat.init w0 [(1, k0_0), (2, k0_1)] [] (by simp only [List.mem_cons, List.not_mem_nil, or_false]; rintro x (rfl | rfl) <;> assumption) (by simp) List.nodup_nil (by simp [blks])
  unfold laws_heldDevice.f at H
  refine enter Try.func34 rfl Try.ntmps34 rfl fun a hk => ?_
  apply wp_seq_k; intro K1 hK1
  apply wp_region_lit
  refine sbx 3 hs rfl hk rfl rfl rfl rfl fun b2 w a hk hs => ?_
  refine sa _ rfl hk rfl rfl rfl fun a hk => ?_
  show wpList _ _ _ [] _ _
  refine wpList_nil ?_
  refine hK1 _ _ ?_
  apply wp_seq_k; intro K3 hK3
  apply wp_region_lit
  refine sf ⟨b2, 0, none⟩ rfl hk rfl rfl rfl fd35_0 rfl fun a hk => ?_
  refine sl rfl hk rfl rfl rfl ag24 (box_cell hs (k := 3) rfl rfl) fun a hk => ?_
  refine sm _ rfl hk rfl rfl rfl fun a hk => ?_
  obtain ⟨y4, h5, H⟩ := bind_some H
  refine sc rfl en85 hk rfl rfl rfl (laws_heldStringS_t _ A0_0 p0_0 x0.Sure _ v0_0 (hs.hasD (k := 1) rfl) x1 _ h5) ?_
  rintro _ w ⟨rfl, hG⟩ a hk
  have hs := hs.call0 hG
  refine sa _ rfl hk rfl rfl rfl fun a hk => ?_
  show wpList _ _ _ [] _ _
  refine wpList_nil ?_
  refine hK3 _ _ ?_
  apply wp_seq_k; intro K6 hK6
  apply wp_seq_k; intro K7 hK7
  apply wp_region_lit
  refine sm _ rfl hk rfl rfl rfl fun a hk => ?_
  refine sv (.bool (decide (y4 < 0))) hk rfl rfl rfl fun a hk => ?_
  show wpList _ _ _ [] _ _
  refine wpList_nil ?_
  refine hK7 _ _ ?_
  rcases cond_some H with ⟨c8, H⟩ | ⟨c8, H⟩
  · have hk := hk.lit 10 c8 rfl
    refine cnd_true hk rfl rfl ?_
    apply wp_seq_k; intro K9 hK9
    apply wp_region_lit
    refine sa _ rfl hk rfl rfl rfl fun a hk => ?_
    show wpList _ _ _ [] _ _
    refine wpList_nil ?_
    refine hK9 _ _ ?_
    refine wp_ret ?_
    obtain rfl := Option.some.inj H
    exact fin hk _ [(.int .i64 (-1))] rfl ⟨rfl, trivial⟩ ⟨rfl, (hs.pick [] rfl).dnil⟩
  · have hk := hk.lit 10 c8 rfl
    refine cnd_false hk rfl rfl ?_
    refine wp_skip ?_
    refine hK6 _ _ ?_
    apply wp_seq_k; intro K10 hK10
    apply wp_region_lit
    refine sf ⟨b2, 1, none⟩ rfl hk rfl rfl rfl fd35_1 rfl fun a hk => ?_
    refine sl rfl hk rfl rfl rfl ag33 (box_cell hs (k := 3) rfl rfl) fun a hk => ?_
    refine sm _ rfl hk rfl rfl rfl fun a hk => ?_
    obtain ⟨y11, h12, H⟩ := bind_some H
    refine sc rfl en86 hk rfl rfl rfl (laws_heldIoS_t _ A0_1 p0_1 x0.Unsure _ v0_1 (hs.hasD (k := 2) rfl) y4 _ h12) ?_
    rintro _ w ⟨rfl, hG⟩ a hk
    have hs := hs.call0 hG
    refine sa _ rfl hk rfl rfl rfl fun a hk => ?_
    show wpList _ _ _ [] _ _
    refine wpList_nil ?_
    refine hK10 _ _ ?_
    apply wp_seq_k; intro K13 hK13
    apply wp_seq_k; intro K14 hK14
    apply wp_region_lit
    refine sm _ rfl hk rfl rfl rfl fun a hk => ?_
    refine sv (.bool (decide (y11 < 0))) hk rfl rfl rfl fun a hk => ?_
    show wpList _ _ _ [] _ _
    refine wpList_nil ?_
    refine hK14 _ _ ?_
    rcases cond_some H with ⟨c15, H⟩ | ⟨c15, H⟩
    · have hk := hk.lit 16 c15 rfl
      refine cnd_true hk rfl rfl ?_
      apply wp_seq_k; intro K16 hK16
      apply wp_region_lit
      refine sa _ rfl hk rfl rfl rfl fun a hk => ?_
      show wpList _ _ _ [] _ _
      refine wpList_nil ?_
      refine hK16 _ _ ?_
      refine wp_ret ?_
      obtain rfl := Option.some.inj H
      exact fin hk _ [(.int .i64 (-1))] rfl ⟨rfl, trivial⟩ ⟨rfl, (hs.pick [] rfl).dnil⟩
    · have hk := hk.lit 16 c15 rfl
      refine cnd_false hk rfl rfl ?_
      refine wp_skip ?_
      refine hK13 _ _ ?_
      apply wp_seq_k; intro K17 hK17
      apply wp_region_lit
      refine sm _ rfl hk rfl rfl rfl fun a hk => ?_
      refine sa _ rfl hk rfl rfl rfl fun a hk => ?_
      show wpList _ _ _ [] _ _
      refine wpList_nil ?_
      refine hK17 _ _ ?_
      refine wp_ret ?_
      obtain rfl := Option.some.inj H
      exact fin hk _ [(.int .i64 y11)] rfl ⟨rfl, trivial⟩ ⟨rfl, (hs.pick [] rfl).dnil⟩

noncomputable def laws_FnExactFlipAt.f (x0 : S_Device) (x1 : Int) (x2 : Int) (x3 : Int) : Option (Bool) :=
  ((laws_szDevice.f x0 1048576).bind fun y5 => (bif (decide (y5 < 0)) then (some true) else ((laws_toDevice.f x0).bind fun y12 => ((spec_FlipAt.f y12 x1 x2 x3).bind fun y22 => ((laws_toDevice.f x0).bind fun y34 => ((impl_FlipAt.f y34 x1 x2 x3).bind fun y46 => ((((laws_eqDevice.f y46.1 y22.1).bind fun y65 => (bif (!y65) then (some true) else (some (y46.2 != y22.2)))) : Option (Bool)).bind fun u60 => (bif u60 then (some false) else ((laws_toDevice.f x0).bind fun y73 => ((laws_eqDevice.f y34 y73).bind fun y84 => (bif (!y84) then (some false) else ((laws_markDevice.f y34 1).bind fun y91 => (((bif (decide (y91.1 < 0)) then (some true) else ((laws_eqDevice.f y46.1 y22.1).bind fun y110 => (bif (!y110) then (some true) else (some (y46.2 != y22.2))))) : Option (Bool)).bind fun u104 => (bif u104 then (some false) else ((laws_markDevice.f y46.1 1).bind fun y117 => ((laws_heldDevice.f (⟨y117.2.1, y117.2.2⟩ : S_Device) 1).bind fun y129 => (bif (decide (y129 < 0)) then (some false) else (bif (y129 != y117.1) then (some false) else ((laws_toDevice.f x0).bind fun y140 => ((impl_FlipAt.f y140 x1 x2 x3).bind fun y150 => ((((laws_eqDevice.f y150.1 y22.1).bind fun y169 => (bif (!y169) then (some true) else (some (y150.2 != y22.2)))) : Option (Bool)).bind fun u164 => (bif u164 then (some false) else ((laws_heldDevice.f (⟨y117.2.1, y117.2.2⟩ : S_Device) 1).bind fun y176 => (bif (decide (y176 < 0)) then (some false) else (bif (y176 != y117.1) then (some false) else (some true))))))))))))))))))))))))))
set_option maxRecDepth 100000 in
set_option maxHeartbeats 0 in
theorem laws_FnExactFlipAt_t (w0 : World) (x0 : S_Device) (A0_0 : Option Addr) (p0_0 : Nat) (k0_0 : Chunk) (v0_0 : View Lay.str A0_0 p0_0 x0.Sure k0_0) (w0_0 : Has w0 k0_0) (A0_1 : Option Addr) (p0_1 : Nat) (k0_1 : Chunk) (v0_1 : View L_Io A0_1 p0_1 x0.Unsure k0_1) (w0_1 : Has w0 k0_1) (x1 : Int) (x2 : Int) (x3 : Int) (r : Bool) (H : laws_FnExactFlipAt.f x0 x1 x2 x3 = some r) :
    Calls Try.prog 7 #[.agg #[.slice A0_0 x0.Sure.length p0_0, .slice A0_1 x0.Unsure.length p0_1], .int .i64 x1, .int .i64 x2, .int .i64 x3] w0 (Ret (fun v w => v = .bool r ∧ Sat [] w0 w [] [])) := by
  have hs : Sat [] w0 w0 [(1, k0_0), (2, k0_1)] [] := Sat.init w0 [(1, k0_0), (2, k0_1)] [] (by simp only [List.mem_cons, List.not_mem_nil, or_false]; rintro x (rfl | rfl) <;> assumption) (by simp) List.nodup_nil (by simp [blks])
  unfold laws_FnExactFlipAt.f at H
  refine enter Try.func7 rfl Try.ntmps7 rfl fun a hk => ?_
  apply wp_seq_k; intro K1 hK1
  apply wp_region_lit
  refine sbx 3 hs rfl hk rfl rfl rfl rfl fun b2 w a hk hs => ?_
  refine sa _ rfl hk rfl rfl rfl fun a hk => ?_
  show wpList _ _ _ [] _ _
  refine wpList_nil ?_
  refine hK1 _ _ ?_
  apply wp_seq_k; intro K3 hK3
  apply wp_region_lit
  refine sa _ rfl hk rfl rfl rfl fun a hk => ?_
  show wpList _ _ _ [] _ _
  refine wpList_nil ?_
  refine hK3 _ _ ?_
  apply wp_seq_k; intro K4 hK4
  apply wp_region_lit
  refine sln [.slice A0_0 x0.Sure.length p0_0, .slice A0_1 x0.Unsure.length p0_1] rfl hk rfl rfl rfl ag27 sz27 (box_cells hs (k := 3) rfl) fun a hk => ?_
  refine sm _ rfl hk rfl rfl rfl fun a hk => ?_
  obtain ⟨y5, h6, H⟩ := bind_some H
  refine sc rfl en28 hk rfl rfl rfl (laws_szDevice_t _ x0 A0_0 p0_0 _ v0_0 (hs.hasD (k := 1) rfl) A0_1 p0_1 _ v0_1 (hs.hasD (k := 2) rfl) 1048576 _ h6) ?_
  rintro _ w ⟨rfl, hG⟩ a hk
  have hs := hs.call0 hG
  refine sa _ rfl hk rfl rfl rfl fun a hk => ?_
  show wpList _ _ _ [] _ _
  refine wpList_nil ?_
  refine hK4 _ _ ?_
  apply wp_seq_k; intro K7 hK7
  apply wp_seq_k; intro K8 hK8
  apply wp_region_lit
  refine sm _ rfl hk rfl rfl rfl fun a hk => ?_
  refine sv (.bool (decide (y5 < 0))) hk rfl rfl rfl fun a hk => ?_
  show wpList _ _ _ [] _ _
  refine wpList_nil ?_
  refine hK8 _ _ ?_
  rcases cond_some H with ⟨c9, H⟩ | ⟨c9, H⟩
  · have hk := hk.lit 24 c9 rfl
    refine cnd_true hk rfl rfl ?_
    apply wp_seq_k; intro K10 hK10
    apply wp_region_lit
    refine sa _ rfl hk rfl rfl rfl fun a hk => ?_
    show wpList _ _ _ [] _ _
    refine wpList_nil ?_
    refine hK10 _ _ ?_
    refine wp_ret ?_
    obtain rfl := Option.some.inj H
    exact fin hk _ [(.bool true)] rfl ⟨rfl, trivial⟩ ⟨rfl, (hs.pick [] rfl).dnil⟩
  · have hk := hk.lit 24 c9 rfl
    refine cnd_false hk rfl rfl ?_
    refine wp_skip ?_
    refine hK7 _ _ ?_
    apply wp_seq_k; intro K11 hK11
    apply wp_region_lit
    refine sln [.slice A0_0 x0.Sure.length p0_0, .slice A0_1 x0.Unsure.length p0_1] rfl hk rfl rfl rfl ag27 sz27 (box_cells hs (k := 3) rfl) fun a hk => ?_
    obtain ⟨y12, h13, H⟩ := bind_some H
    refine sc rfl en30 hk rfl rfl rfl (laws_toDevice_t _ x0 A0_0 p0_0 _ v0_0 (hs.hasD (k := 1) rfl) A0_1 p0_1 _ v0_1 (hs.hasD (k := 2) rfl) _ h13) ?_
    rintro _ w ⟨A14, p15, k16, A18, p19, k20, rfl, o17, o21, hG⟩ a hk
    have hs := hs.call0k hG [4, 5] rfl
    refine sm _ rfl hk rfl rfl rfl fun a hk => ?_
    refine sm _ rfl hk rfl rfl rfl fun a hk => ?_
    refine sm _ rfl hk rfl rfl rfl fun a hk => ?_
    obtain ⟨y22, h23, H⟩ := bind_some H
    refine sc rfl en29 hk rfl rfl rfl (spec_FlipAt_t _ y12 A14 p15 _ o17.view (hs.hasG (k := 4) rfl) A18 p19 _ o21.view (hs.hasG (k := 5) rfl) x1 x2 x3 _ h23) ?_
    rintro _ w ⟨A24, p25, k26, A28, p29, k30, rfl, o27, o31, hG⟩ a hk
    have hs := hs.call0k hG [6, 7] rfl
    refine sm _ rfl hk rfl rfl rfl fun a hk => ?_
    refine sv (.agg #[.slice A24 y22.1.Sure.length p25, .slice A28 y22.1.Unsure.length p29]) hk rfl rfl rfl fun a hk => ?_
    refine sv (.int .i64 y22.2) hk rfl rfl rfl fun a hk => ?_
    refine salx 8 hs rfl hk rfl rfl ze35 rfl fun b32 w a hk hs => ?_
    refine ssw 8 hs rfl rfl hk rfl rfl rfl rfl sz35 (by simp [Value.oneCell']) rfl fun w a hk hs => ?_
    refine sa _ rfl hk rfl rfl rfl fun a hk => ?_
    show wpList _ _ _ [] _ _
    refine wpList_nil ?_
    refine hK11 _ _ ?_
    apply wp_seq_k; intro K33 hK33
    apply wp_region_lit
    refine sln [.slice A0_0 x0.Sure.length p0_0, .slice A0_1 x0.Unsure.length p0_1] rfl hk rfl rfl rfl ag27 sz27 (box_cells hs (k := 3) rfl) fun a hk => ?_
    obtain ⟨y34, h35, H⟩ := bind_some H
    refine sc rfl en30 hk rfl rfl rfl (laws_toDevice_t _ x0 A0_0 p0_0 _ v0_0 (hs.hasD (k := 1) rfl) A0_1 p0_1 _ v0_1 (hs.hasD (k := 2) rfl) _ h35) ?_
    rintro _ w ⟨A36, p37, k38, A40, p41, k42, rfl, o39, o43, hG⟩ a hk
    have hs := hs.call0k hG [9, 10] rfl
    refine salx 11 hs rfl hk rfl rfl ze35 rfl fun b44 w a hk hs => ?_
    refine ssw 11 hs rfl rfl hk rfl rfl rfl rfl sz35 (by simp [Value.oneCell']) rfl fun w a hk hs => ?_
    show wpList _ _ _ [] _ _
    refine wpList_nil ?_
    refine hK33 _ _ ?_
    apply wp_seq_k; intro K45 hK45
    apply wp_region_lit
    refine sln [.slice A36 y34.Sure.length p37, .slice A40 y34.Unsure.length p41] rfl hk rfl rfl rfl ag35 sz35 (box_cells hs (k := 11) rfl) fun a hk => ?_
    refine sm _ rfl hk rfl rfl rfl fun a hk => ?_
    refine sm _ rfl hk rfl rfl rfl fun a hk => ?_
    refine sm _ rfl hk rfl rfl rfl fun a hk => ?_
    obtain ⟨y46, h47, H⟩ := bind_some H
    refine sc rfl en31 hk rfl rfl rfl (impl_FlipAt_t _ y34 A36 p37 _ o39.view (hs.hasG (k := 9) rfl) A40 p41 _ o43.view (hs.hasG (k := 10) rfl) x1 x2 x3 _ h47) ?_
    rintro _ w ⟨A48, p49, k50, A52, p53, k54, rfl, o51, o55, hG⟩ a hk
    have hs := hs.call0k hG [12, 13] rfl
    refine sm _ rfl hk rfl rfl rfl fun a hk => ?_
    refine sv (.agg #[.slice A48 y46.1.Sure.length p49, .slice A52 y46.1.Unsure.length p53]) hk rfl rfl rfl fun a hk => ?_
    refine sv (.int .i64 y46.2) hk rfl rfl rfl fun a hk => ?_
    refine salx 14 hs rfl hk rfl rfl ze35 rfl fun b56 w a hk hs => ?_
    refine ssw 14 hs rfl rfl hk rfl rfl rfl rfl sz35 (by simp [Value.oneCell']) rfl fun w a hk hs => ?_
    refine sa _ rfl hk rfl rfl rfl fun a hk => ?_
    show wpList _ _ _ [] _ _
    refine wpList_nil ?_
    refine hK45 _ _ ?_
    apply wp_seq_k; intro K57 hK57
    apply wp_seq_k; intro K58 hK58
    obtain ⟨o61, h62, HL63⟩ := bind_some H
    clear H
    obtain ⟨R64, hR64⟩ : ∃ R : Act → World → Prop, R = fun a w => ∃ (u60 : Bool), u60 = o61 ∧ Kn [(1, (.int .i64 x1)), (2, (.int .i64 x2)), (3, (.int .i64 x3)), (4, (.pointer (some ⟨b2, 0, none⟩))), (10, (.pointer (some ⟨b32, 0, none⟩))), (11, (.int .i64 y22.2)), (12, (.pointer (some ⟨b44, 0, none⟩))), (13, (.pointer (some ⟨b56, 0, none⟩))), (14, (.int .i64 y46.2)), (52, (.bool u60))] 111 a ∧ Sat [] w0 w [(1, k0_0), (2, k0_1)] [(3, [(b2, .cells #[.slice A0_0 x0.Sure.length p0_0, .slice A0_1 x0.Unsure.length p0_1] 27 (0, 0))]), (8, [(b32, .cells #[.slice A24 y22.1.Sure.length p25, .slice A28 y22.1.Unsure.length p29] 35 (0, 0))]), (6, k26), (7, k30), (11, [(b44, .cells #[.slice A36 y34.Sure.length p37, .slice A40 y34.Unsure.length p41] 35 (0, 0))]), (9, k38), (10, k42), (14, [(b56, .cells #[.slice A48 y46.1.Sure.length p49, .slice A52 y46.1.Unsure.length p53] 35 (0, 0))]), (12, k50), (13, k54)] := ⟨_, rfl⟩
    refine wp_cutq R64 ?_ ?_
    · have H := h62
      apply wp_region_lit
      refine sln [.slice A48 y46.1.Sure.length p49, .slice A52 y46.1.Unsure.length p53] rfl hk rfl rfl rfl ag35 sz35 (box_cells hs (k := 14) rfl) fun a hk => ?_
      refine sln [.slice A24 y22.1.Sure.length p25, .slice A28 y22.1.Unsure.length p29] rfl hk rfl rfl rfl ag35 sz35 (box_cells hs (k := 8) rfl) fun a hk => ?_
      obtain ⟨y65, h66, H⟩ := bind_some H
      refine sc rfl en32 hk rfl rfl rfl (laws_eqDevice_t _ y46.1 A48 p49 _ o51.view (hs.hasG (k := 12) rfl) A52 p53 _ o55.view (hs.hasG (k := 13) rfl) y22.1 A24 p25 _ o27.view (hs.hasG (k := 6) rfl) A28 p29 _ o31.view (hs.hasG (k := 7) rfl) _ h66) ?_
      rintro _ w ⟨rfl, hG⟩ a hk
      have hs := hs.call0 hG
      refine sv (.bool (!y65)) hk rfl rfl rfl fun a hk => ?_
      refine sm _ rfl hk rfl rfl rfl fun a hk => ?_
      rcases cond_some H with ⟨c67, H⟩ | ⟨c67, H⟩
      · have hk := hk.lit 48 c67 rfl
        refine sk hk rfl rfl rfl fun a hk => ?_
        refine sk hk rfl rfl rfl fun a hk => ?_
        refine sk hk rfl rfl rfl fun a hk => ?_
        refine sv (.bool true) hk rfl rfl rfl fun a hk => ?_
        show wpList _ _ _ [] _ _
        refine wpList_nil ?_
        obtain rfl := Option.some.inj H
        show R64 _ _
        rw [hR64]
        exact ⟨true, rfl, (hk.c 1 rfl (hk.c 2 rfl (hk.c 3 rfl (hk.c 4 rfl (hk.c 10 rfl (hk.c 11 rfl (hk.c 12 rfl (hk.c 13 rfl (hk.c 14 rfl (hk.c 52 rfl hk.k)))))))))), (hs.pick [(3, 3), (8, 8), (6, 6), (7, 7), (11, 11), (9, 9), (10, 10), (14, 14), (12, 12), (13, 13)] rfl)⟩
      · have hk := hk.lit 48 c67 rfl
        refine sm _ rfl hk rfl rfl rfl fun a hk => ?_
        refine sm _ rfl hk rfl rfl rfl fun a hk => ?_
        refine sv (.bool (y46.2 != y22.2)) hk rfl rfl rfl fun a hk => ?_
        refine sv (.bool (y46.2 != y22.2)) hk rfl rfl rfl fun a hk => ?_
        show wpList _ _ _ [] _ _
        refine wpList_nil ?_
        obtain rfl := Option.some.inj H
        show R64 _ _
        rw [hR64]
        exact ⟨(y46.2 != y22.2), rfl, (hk.c 1 rfl (hk.c 2 rfl (hk.c 3 rfl (hk.c 4 rfl (hk.c 10 rfl (hk.c 11 rfl (hk.c 12 rfl (hk.c 13 rfl (hk.c 14 rfl (hk.c 52 rfl hk.k)))))))))), (hs.pick [(3, 3), (8, 8), (6, 6), (7, 7), (11, 11), (9, 9), (10, 10), (14, 14), (12, 12), (13, 13)] rfl)⟩
    · intro a w hR0
      rw [hR64] at hR0
      obtain ⟨u60, rfl, hk, hs⟩ := hR0
      have H := HL63
      try dsimp only at H
      refine hK58 _ _ ?_
      rcases cond_some H with ⟨c68, H⟩ | ⟨c68, H⟩
      · have hk := hk.lit 52 c68 rfl
        refine cnd_true hk rfl rfl ?_
        apply wp_seq_k; intro K69 hK69
        apply wp_region_lit
        refine sa _ rfl hk rfl rfl rfl fun a hk => ?_
        show wpList _ _ _ [] _ _
        refine wpList_nil ?_
        refine hK69 _ _ ?_
        refine wp_ret ?_
        obtain rfl := Option.some.inj H
        exact fin hk _ [(.bool false)] rfl ⟨rfl, trivial⟩ ⟨rfl, (hs.pick [] rfl).dnil⟩
      · have hk := hk.lit 52 c68 rfl
        refine cnd_false hk rfl rfl ?_
        refine wp_skip ?_
        refine hK57 _ _ ?_
        apply wp_seq_k; intro K70 hK70
        apply wp_seq_k; intro K71 hK71
        refine wp_region_mix [(0, true), (1, true), (2, false), (3, false), (4, false)] mo (by kernel_rfl) (hs.pick [(3, 3), (8, 8), (6, 6), (7, 7), (11, 11), (9, 9), (10, 10), (14, 14), (12, 12), (13, 13)] rfl) fun _ => ?_
        have hs := hs.drew
        refine qst (.agg #[.slice A36 y34.Sure.length p37, .slice A40 y34.Unsure.length p41]) hk rfl rfl rfl rfl (fun w hs => sln [.slice A36 y34.Sure.length p37, .slice A40 y34.Unsure.length p41] rfl hk rfl rfl rfl ag35 sz35 (box_cells hs (k := 11) rfl) fun a hk => qe hk) fun a hk => ?_
        refine qst (.agg #[.slice A0_0 x0.Sure.length p0_0, .slice A0_1 x0.Unsure.length p0_1]) hk rfl rfl rfl rfl (fun w hs => sln [.slice A0_0 x0.Sure.length p0_0, .slice A0_1 x0.Unsure.length p0_1] rfl hk rfl rfl rfl ag27 sz27 (box_cells hs (k := 3) rfl) fun a hk => qe hk) fun a hk => ?_
        refine sst hk rfl rfl fun K72 hK72 w hF => ?_
        have hs := hs.f hF
        obtain ⟨y73, h74, H⟩ := bind_some H
        refine sc rfl en30 hk rfl rfl rfl (laws_toDevice_t _ x0 A0_0 p0_0 _ v0_0 (hs.hasD (k := 1) rfl) A0_1 p0_1 _ v0_1 (hs.hasD (k := 2) rfl) _ h74) ?_
        rintro _ w ⟨A75, p76, k77, A79, p80, k81, rfl, o78, o82, hG⟩ a hk
        have hs := hs.call0k hG [16, 17] rfl
        refine se (hs.pick [(3, 3), (8, 8), (6, 6), (7, 7), (11, 11), (9, 9), (10, 10), (14, 14), (12, 12), (13, 13)] rfl) hk (hK72 _ _ ?_)
        refine sst hk rfl rfl fun K83 hK83 w hF => ?_
        have hs := hs.f hF
        obtain ⟨y84, h85, H⟩ := bind_some H
        refine sc rfl en32 hk rfl rfl rfl (laws_eqDevice_t _ y34 A36 p37 _ o39.view (hs.hasG (k := 9) rfl) A40 p41 _ o43.view (hs.hasG (k := 10) rfl) y73 A75 p76 _ o78.view (hs.hasG (k := 16) rfl) A79 p80 _ o82.view (hs.hasG (k := 17) rfl) _ h85) ?_
        rintro _ w ⟨rfl, hG⟩ a hk
        have hs := hs.call0 hG
        refine se (hs.pick [(3, 3), (8, 8), (6, 6), (7, 7), (11, 11), (9, 9), (10, 10), (14, 14), (12, 12), (13, 13)] rfl) hk (hK83 _ _ ?_)
        refine sst hk rfl rfl fun K86 hK86 w hF => ?_
        have hs := hs.f hF
        refine sv (.bool (!y84)) hk rfl rfl rfl fun a hk => ?_
        refine se (hs.pick [(3, 3), (8, 8), (6, 6), (7, 7), (11, 11), (9, 9), (10, 10), (14, 14), (12, 12), (13, 13)] rfl) hk (hK86 _ _ ?_)
        refine wml_nil fun w hF _ => ?_
        have hs := hs.f hF
        refine hK71 _ _ ?_
        rcases cond_some H with ⟨c87, H⟩ | ⟨c87, H⟩
        · have hk := hk.lit 57 c87 rfl
          refine cnd_true hk rfl rfl ?_
          apply wp_seq_k; intro K88 hK88
          apply wp_region_lit
          refine sa _ rfl hk rfl rfl rfl fun a hk => ?_
          show wpList _ _ _ [] _ _
          refine wpList_nil ?_
          refine hK88 _ _ ?_
          refine wp_ret ?_
          obtain rfl := Option.some.inj H
          exact fin hk _ [(.bool false)] rfl ⟨rfl, trivial⟩ ⟨rfl, (hs.pick [] rfl).dnil⟩
        · have hk := hk.lit 57 c87 rfl
          refine cnd_false hk rfl rfl ?_
          refine wp_skip ?_
          refine hK70 _ _ ?_
          apply wp_seq_k; intro K89 hK89
          apply wp_region_lit
          refine sa _ rfl hk rfl rfl rfl fun a hk => ?_
          show wpList _ _ _ [] _ _
          refine wpList_nil ?_
          refine hK89 _ _ ?_
          apply wp_seq_k; intro K90 hK90
          apply wp_region_lit
          refine sln [.slice A36 y34.Sure.length p37, .slice A40 y34.Unsure.length p41] rfl hk rfl rfl rfl ag35 sz35 (box_cells hs (k := 11) rfl) fun a hk => ?_
          refine sm _ rfl hk rfl rfl rfl fun a hk => ?_
          obtain ⟨y91, h92, H⟩ := bind_some H
          refine sc rfl en33 hk rfl rfl rfl (laws_markDevice_t _ y34 A36 p37 _ o39 A40 p41 _ o43 1 ((hs.hand [(1, 9), (2, 10)] rfl).dpick [] rfl) _ h92) ?_
          rintro _ w ⟨k93, k96, rfl, ⟨o94, lh95⟩, ⟨o97, lh98⟩, hG⟩ a hk
          have hs := hs.back [(1, 9), (2, 10)] rfl hG [9, 10] rfl
          have lh99 : y91.2.1.length = y34.Sure.length := lh95
          have lh100 : y91.2.2.length = y34.Unsure.length := lh98
          refine sa _ rfl hk rfl rfl rfl fun a hk => ?_
          show wpList _ _ _ [] _ _
          refine wpList_nil ?_
          refine hK90 _ _ ?_
          apply wp_seq_k; intro K101 hK101
          apply wp_seq_k; intro K102 hK102
          obtain ⟨o105, h106, HL107⟩ := bind_some H
          clear H
          obtain ⟨R108, hR108⟩ : ∃ R : Act → World → Prop, R = fun a w => ∃ (u104 : Bool), u104 = o105 ∧ Kn [(1, (.int .i64 x1)), (2, (.int .i64 x2)), (3, (.int .i64 x3)), (4, (.pointer (some ⟨b2, 0, none⟩))), (10, (.pointer (some ⟨b32, 0, none⟩))), (11, (.int .i64 y22.2)), (13, (.pointer (some ⟨b56, 0, none⟩))), (73, (.bool u104))] 111 a ∧ Sat [] w0 w [(1, k0_0), (2, k0_1)] [(3, [(b2, .cells #[.slice A0_0 x0.Sure.length p0_0, .slice A0_1 x0.Unsure.length p0_1] 27 (0, 0))]), (8, [(b32, .cells #[.slice A24 y22.1.Sure.length p25, .slice A28 y22.1.Unsure.length p29] 35 (0, 0))]), (6, k26), (7, k30), (14, [(b56, .cells #[.slice A48 y46.1.Sure.length p49, .slice A52 y46.1.Unsure.length p53] 35 (0, 0))]), (12, k50), (13, k54)] := ⟨_, rfl⟩
          refine wp_cutq R108 ?_ ?_
          · have H := h106
            apply wp_region_lit
            refine sm _ rfl hk rfl rfl rfl fun a hk => ?_
            refine sv (.bool (decide (y91.1 < 0))) hk rfl rfl rfl fun a hk => ?_
            refine sm _ rfl hk rfl rfl rfl fun a hk => ?_
            rcases cond_some H with ⟨c109, H⟩ | ⟨c109, H⟩
            · have hk := hk.lit 63 c109 rfl
              refine sk hk rfl rfl rfl fun a hk => ?_
              refine sk hk rfl rfl rfl fun a hk => ?_
              refine sk hk rfl rfl rfl fun a hk => ?_
              refine sk hk rfl rfl rfl fun a hk => ?_
              refine sv (.bool true) hk rfl rfl rfl fun a hk => ?_
              refine sm _ rfl hk rfl rfl rfl fun a hk => ?_
              refine sk hk rfl rfl rfl fun a hk => ?_
              refine sk hk rfl rfl rfl fun a hk => ?_
              refine sk hk rfl rfl rfl fun a hk => ?_
              refine sv (.bool true) hk rfl rfl rfl fun a hk => ?_
              show wpList _ _ _ [] _ _
              refine wpList_nil ?_
              obtain rfl := Option.some.inj H
              show R108 _ _
              rw [hR108]
              exact ⟨true, rfl, (hk.c 1 rfl (hk.c 2 rfl (hk.c 3 rfl (hk.c 4 rfl (hk.c 10 rfl (hk.c 11 rfl (hk.c 13 rfl (hk.c 73 rfl hk.k)))))))), (hs.pick [(3, 3), (8, 8), (6, 6), (7, 7), (14, 14), (12, 12), (13, 13)] rfl)⟩
            · have hk := hk.lit 63 c109 rfl
              refine sln [.slice A48 y46.1.Sure.length p49, .slice A52 y46.1.Unsure.length p53] rfl hk rfl rfl rfl ag35 sz35 (box_cells hs (k := 14) rfl) fun a hk => ?_
              refine sln [.slice A24 y22.1.Sure.length p25, .slice A28 y22.1.Unsure.length p29] rfl hk rfl rfl rfl ag35 sz35 (box_cells hs (k := 8) rfl) fun a hk => ?_
              obtain ⟨y110, h111, H⟩ := bind_some H
              refine sc rfl en32 hk rfl rfl rfl (laws_eqDevice_t _ y46.1 A48 p49 _ o51.view (hs.hasG (k := 12) rfl) A52 p53 _ o55.view (hs.hasG (k := 13) rfl) y22.1 A24 p25 _ o27.view (hs.hasG (k := 6) rfl) A28 p29 _ o31.view (hs.hasG (k := 7) rfl) _ h111) ?_
              rintro _ w ⟨rfl, hG⟩ a hk
              have hs := hs.call0 hG
              refine sv (.bool (!y110)) hk rfl rfl rfl fun a hk => ?_
              refine sv (.bool (!y110)) hk rfl rfl rfl fun a hk => ?_
              refine sm _ rfl hk rfl rfl rfl fun a hk => ?_
              rcases cond_some H with ⟨c112, H⟩ | ⟨c112, H⟩
              · have hk := hk.lit 69 c112 rfl
                refine sk hk rfl rfl rfl fun a hk => ?_
                refine sk hk rfl rfl rfl fun a hk => ?_
                refine sk hk rfl rfl rfl fun a hk => ?_
                refine sv (.bool true) hk rfl rfl rfl fun a hk => ?_
                show wpList _ _ _ [] _ _
                refine wpList_nil ?_
                obtain rfl := Option.some.inj H
                show R108 _ _
                rw [hR108]
                exact ⟨true, rfl, (hk.c 1 rfl (hk.c 2 rfl (hk.c 3 rfl (hk.c 4 rfl (hk.c 10 rfl (hk.c 11 rfl (hk.c 13 rfl (hk.c 73 rfl hk.k)))))))), (hs.pick [(3, 3), (8, 8), (6, 6), (7, 7), (14, 14), (12, 12), (13, 13)] rfl)⟩
              · have hk := hk.lit 69 c112 rfl
                refine sm _ rfl hk rfl rfl rfl fun a hk => ?_
                refine sm _ rfl hk rfl rfl rfl fun a hk => ?_
                refine sv (.bool (y46.2 != y22.2)) hk rfl rfl rfl fun a hk => ?_
                refine sv (.bool (y46.2 != y22.2)) hk rfl rfl rfl fun a hk => ?_
                show wpList _ _ _ [] _ _
                refine wpList_nil ?_
                obtain rfl := Option.some.inj H
                show R108 _ _
                rw [hR108]
                exact ⟨(y46.2 != y22.2), rfl, (hk.c 1 rfl (hk.c 2 rfl (hk.c 3 rfl (hk.c 4 rfl (hk.c 10 rfl (hk.c 11 rfl (hk.c 13 rfl (hk.c 73 rfl hk.k)))))))), (hs.pick [(3, 3), (8, 8), (6, 6), (7, 7), (14, 14), (12, 12), (13, 13)] rfl)⟩
          · intro a w hR0
            rw [hR108] at hR0
            obtain ⟨u104, rfl, hk, hs⟩ := hR0
            have H := HL107
            try dsimp only at H
            refine hK102 _ _ ?_
            rcases cond_some H with ⟨c113, H⟩ | ⟨c113, H⟩
            · have hk := hk.lit 73 c113 rfl
              refine cnd_true hk rfl rfl ?_
              apply wp_seq_k; intro K114 hK114
              apply wp_region_lit
              refine sa _ rfl hk rfl rfl rfl fun a hk => ?_
              show wpList _ _ _ [] _ _
              refine wpList_nil ?_
              refine hK114 _ _ ?_
              refine wp_ret ?_
              obtain rfl := Option.some.inj H
              exact fin hk _ [(.bool false)] rfl ⟨rfl, trivial⟩ ⟨rfl, (hs.pick [] rfl).dnil⟩
            · have hk := hk.lit 73 c113 rfl
              refine cnd_false hk rfl rfl ?_
              refine wp_skip ?_
              refine hK101 _ _ ?_
              apply wp_seq_k; intro K115 hK115
              apply wp_region_lit
              refine sa _ rfl hk rfl rfl rfl fun a hk => ?_
              show wpList _ _ _ [] _ _
              refine wpList_nil ?_
              refine hK115 _ _ ?_
              apply wp_seq_k; intro K116 hK116
              apply wp_region_lit
              refine sln [.slice A48 y46.1.Sure.length p49, .slice A52 y46.1.Unsure.length p53] rfl hk rfl rfl rfl ag35 sz35 (box_cells hs (k := 14) rfl) fun a hk => ?_
              refine sm _ rfl hk rfl rfl rfl fun a hk => ?_
              obtain ⟨y117, h118, H⟩ := bind_some H
              refine sc rfl en33 hk rfl rfl rfl (laws_markDevice_t _ y46.1 A48 p49 _ o51 A52 p53 _ o55 1 ((hs.hand [(1, 12), (2, 13)] rfl).dpick [] rfl) _ h118) ?_
              rintro _ w ⟨k119, k122, rfl, ⟨o120, lh121⟩, ⟨o123, lh124⟩, hG⟩ a hk
              have hs := hs.back [(1, 12), (2, 13)] rfl hG [12, 13] rfl
              have lh125 : y117.2.1.length = y46.1.Sure.length := lh121
              have lh126 : y117.2.2.length = y46.1.Unsure.length := lh124
              refine sa _ rfl hk rfl rfl rfl fun a hk => ?_
              show wpList _ _ _ [] _ _
              refine wpList_nil ?_
              refine hK116 _ _ ?_
              apply wp_seq_k; intro K127 hK127
              apply wp_region_lit
              refine sa _ rfl hk rfl rfl rfl fun a hk => ?_
              show wpList _ _ _ [] _ _
              refine wpList_nil ?_
              refine hK127 _ _ ?_
              apply wp_seq_k; intro K128 hK128
              apply wp_region_lit
              refine sln [.slice A48 y46.1.Sure.length p49, .slice A52 y46.1.Unsure.length p53] rfl hk rfl rfl rfl ag35 sz35 (box_cells hs (k := 14) rfl) fun a hk => ?_
              refine sm _ rfl hk rfl rfl rfl fun a hk => ?_
              have hk := hk.re 77 (v' := (.agg #[.slice A48 y117.2.1.length p49, .slice A52 y117.2.2.length p53])) rfl (by rw [lh125, lh126])
              obtain ⟨y129, h130, H⟩ := bind_some H
              refine sc rfl en34 hk rfl rfl rfl (laws_heldDevice_t _ (⟨y117.2.1, y117.2.2⟩ : S_Device) A48 p49 _ o120.view (hs.hasG (k := 12) rfl) A52 p53 _ o123.view (hs.hasG (k := 13) rfl) 1 _ h130) ?_
              rintro _ w ⟨rfl, hG⟩ a hk
              have hs := hs.call0 hG
              refine sa _ rfl hk rfl rfl rfl fun a hk => ?_
              show wpList _ _ _ [] _ _
              refine wpList_nil ?_
              refine hK128 _ _ ?_
              apply wp_seq_k; intro K131 hK131
              apply wp_seq_k; intro K132 hK132
              apply wp_region_lit
              refine sm _ rfl hk rfl rfl rfl fun a hk => ?_
              refine sv (.bool (decide (y129 < 0))) hk rfl rfl rfl fun a hk => ?_
              show wpList _ _ _ [] _ _
              refine wpList_nil ?_
              refine hK132 _ _ ?_
              rcases cond_some H with ⟨c133, H⟩ | ⟨c133, H⟩
              · have hk := hk.lit 81 c133 rfl
                refine cnd_true hk rfl rfl ?_
                apply wp_seq_k; intro K134 hK134
                apply wp_region_lit
                refine sa _ rfl hk rfl rfl rfl fun a hk => ?_
                show wpList _ _ _ [] _ _
                refine wpList_nil ?_
                refine hK134 _ _ ?_
                refine wp_ret ?_
                obtain rfl := Option.some.inj H
                exact fin hk _ [(.bool false)] rfl ⟨rfl, trivial⟩ ⟨rfl, (hs.pick [] rfl).dnil⟩
              · have hk := hk.lit 81 c133 rfl
                refine cnd_false hk rfl rfl ?_
                refine wp_skip ?_
                refine hK131 _ _ ?_
                apply wp_seq_k; intro K135 hK135
                apply wp_seq_k; intro K136 hK136
                apply wp_region_lit
                refine sm _ rfl hk rfl rfl rfl fun a hk => ?_
                refine sm _ rfl hk rfl rfl rfl fun a hk => ?_
                refine sv (.bool (y129 != y117.1)) hk rfl rfl rfl fun a hk => ?_
                show wpList _ _ _ [] _ _
                refine wpList_nil ?_
                refine hK136 _ _ ?_
                rcases cond_some H with ⟨c137, H⟩ | ⟨c137, H⟩
                · have hk := hk.lit 84 c137 rfl
                  refine cnd_true hk rfl rfl ?_
                  apply wp_seq_k; intro K138 hK138
                  apply wp_region_lit
                  refine sa _ rfl hk rfl rfl rfl fun a hk => ?_
                  show wpList _ _ _ [] _ _
                  refine wpList_nil ?_
                  refine hK138 _ _ ?_
                  refine wp_ret ?_
                  obtain rfl := Option.some.inj H
                  exact fin hk _ [(.bool false)] rfl ⟨rfl, trivial⟩ ⟨rfl, (hs.pick [] rfl).dnil⟩
                · have hk := hk.lit 84 c137 rfl
                  refine cnd_false hk rfl rfl ?_
                  refine wp_skip ?_
                  refine hK135 _ _ ?_
                  apply wp_seq_k; intro K139 hK139
                  apply wp_region_lit
                  refine sln [.slice A0_0 x0.Sure.length p0_0, .slice A0_1 x0.Unsure.length p0_1] rfl hk rfl rfl rfl ag27 sz27 (box_cells hs (k := 3) rfl) fun a hk => ?_
                  obtain ⟨y140, h141, H⟩ := bind_some H
                  refine sc rfl en30 hk rfl rfl rfl (laws_toDevice_t _ x0 A0_0 p0_0 _ v0_0 (hs.hasD (k := 1) rfl) A0_1 p0_1 _ v0_1 (hs.hasD (k := 2) rfl) _ h141) ?_
                  rintro _ w ⟨A142, p143, k144, A146, p147, k148, rfl, o145, o149, hG⟩ a hk
                  have hs := hs.call0k hG [19, 20] rfl
                  refine sm _ rfl hk rfl rfl rfl fun a hk => ?_
                  refine sm _ rfl hk rfl rfl rfl fun a hk => ?_
                  refine sm _ rfl hk rfl rfl rfl fun a hk => ?_
                  obtain ⟨y150, h151, H⟩ := bind_some H
                  refine sc rfl en31 hk rfl rfl rfl (impl_FlipAt_t _ y140 A142 p143 _ o145.view (hs.hasG (k := 19) rfl) A146 p147 _ o149.view (hs.hasG (k := 20) rfl) x1 x2 x3 _ h151) ?_
                  rintro _ w ⟨A152, p153, k154, A156, p157, k158, rfl, o155, o159, hG⟩ a hk
                  have hs := hs.call0k hG [21, 22] rfl
                  refine sm _ rfl hk rfl rfl rfl fun a hk => ?_
                  refine sv (.agg #[.slice A152 y150.1.Sure.length p153, .slice A156 y150.1.Unsure.length p157]) hk rfl rfl rfl fun a hk => ?_
                  refine sv (.int .i64 y150.2) hk rfl rfl rfl fun a hk => ?_
                  refine salx 23 hs rfl hk rfl rfl ze35 rfl fun b160 w a hk hs => ?_
                  refine ssw 23 hs rfl rfl hk rfl rfl rfl rfl sz35 (by simp [Value.oneCell']) rfl fun w a hk hs => ?_
                  refine sa _ rfl hk rfl rfl rfl fun a hk => ?_
                  show wpList _ _ _ [] _ _
                  refine wpList_nil ?_
                  refine hK139 _ _ ?_
                  apply wp_seq_k; intro K161 hK161
                  apply wp_seq_k; intro K162 hK162
                  obtain ⟨o165, h166, HL167⟩ := bind_some H
                  clear H
                  obtain ⟨R168, hR168⟩ : ∃ R : Act → World → Prop, R = fun a w => ∃ (u164 : Bool), u164 = o165 ∧ Kn [(13, (.pointer (some ⟨b56, 0, none⟩))), (16, (.int .i64 y117.1)), (102, (.bool u164))] 111 a ∧ Sat [] w0 w [(1, k0_0), (2, k0_1)] [(14, [(b56, .cells #[.slice A48 y46.1.Sure.length p49, .slice A52 y46.1.Unsure.length p53] 35 (0, 0))]), (12, k119), (13, k122)] := ⟨_, rfl⟩
                  refine wp_cutq R168 ?_ ?_
                  · have H := h166
                    apply wp_region_lit
                    refine sln [.slice A152 y150.1.Sure.length p153, .slice A156 y150.1.Unsure.length p157] rfl hk rfl rfl rfl ag35 sz35 (box_cells hs (k := 23) rfl) fun a hk => ?_
                    refine sln [.slice A24 y22.1.Sure.length p25, .slice A28 y22.1.Unsure.length p29] rfl hk rfl rfl rfl ag35 sz35 (box_cells hs (k := 8) rfl) fun a hk => ?_
                    obtain ⟨y169, h170, H⟩ := bind_some H
                    refine sc rfl en32 hk rfl rfl rfl (laws_eqDevice_t _ y150.1 A152 p153 _ o155.view (hs.hasG (k := 21) rfl) A156 p157 _ o159.view (hs.hasG (k := 22) rfl) y22.1 A24 p25 _ o27.view (hs.hasG (k := 6) rfl) A28 p29 _ o31.view (hs.hasG (k := 7) rfl) _ h170) ?_
                    rintro _ w ⟨rfl, hG⟩ a hk
                    have hs := hs.call0 hG
                    refine sv (.bool (!y169)) hk rfl rfl rfl fun a hk => ?_
                    refine sm _ rfl hk rfl rfl rfl fun a hk => ?_
                    rcases cond_some H with ⟨c171, H⟩ | ⟨c171, H⟩
                    · have hk := hk.lit 98 c171 rfl
                      refine sk hk rfl rfl rfl fun a hk => ?_
                      refine sk hk rfl rfl rfl fun a hk => ?_
                      refine sk hk rfl rfl rfl fun a hk => ?_
                      refine sv (.bool true) hk rfl rfl rfl fun a hk => ?_
                      show wpList _ _ _ [] _ _
                      refine wpList_nil ?_
                      obtain rfl := Option.some.inj H
                      show R168 _ _
                      rw [hR168]
                      exact ⟨true, rfl, (hk.c 13 rfl (hk.c 16 rfl (hk.c 102 rfl hk.k))), (hs.pick [(14, 14), (12, 12), (13, 13)] rfl)⟩
                    · have hk := hk.lit 98 c171 rfl
                      refine sm _ rfl hk rfl rfl rfl fun a hk => ?_
                      refine sm _ rfl hk rfl rfl rfl fun a hk => ?_
                      refine sv (.bool (y150.2 != y22.2)) hk rfl rfl rfl fun a hk => ?_
                      refine sv (.bool (y150.2 != y22.2)) hk rfl rfl rfl fun a hk => ?_
                      show wpList _ _ _ [] _ _
                      refine wpList_nil ?_
                      obtain rfl := Option.some.inj H
                      show R168 _ _
                      rw [hR168]
                      exact ⟨(y150.2 != y22.2), rfl, (hk.c 13 rfl (hk.c 16 rfl (hk.c 102 rfl hk.k))), (hs.pick [(14, 14), (12, 12), (13, 13)] rfl)⟩
                  · intro a w hR0
                    rw [hR168] at hR0
                    obtain ⟨u164, rfl, hk, hs⟩ := hR0
                    have H := HL167
                    try dsimp only at H
                    refine hK162 _ _ ?_
                    rcases cond_some H with ⟨c172, H⟩ | ⟨c172, H⟩
                    · have hk := hk.lit 102 c172 rfl
                      refine cnd_true hk rfl rfl ?_
                      apply wp_seq_k; intro K173 hK173
                      apply wp_region_lit
                      refine sa _ rfl hk rfl rfl rfl fun a hk => ?_
                      show wpList _ _ _ [] _ _
                      refine wpList_nil ?_
                      refine hK173 _ _ ?_
                      refine wp_ret ?_
                      obtain rfl := Option.some.inj H
                      exact fin hk _ [(.bool false)] rfl ⟨rfl, trivial⟩ ⟨rfl, (hs.pick [] rfl).dnil⟩
                    · have hk := hk.lit 102 c172 rfl
                      refine cnd_false hk rfl rfl ?_
                      refine wp_skip ?_
                      refine hK161 _ _ ?_
                      apply wp_seq_k; intro K174 hK174
                      apply wp_region_lit
                      refine sa _ rfl hk rfl rfl rfl fun a hk => ?_
                      show wpList _ _ _ [] _ _
                      refine wpList_nil ?_
                      refine hK174 _ _ ?_
                      apply wp_seq_k; intro K175 hK175
                      apply wp_region_lit
                      refine sln [.slice A48 y46.1.Sure.length p49, .slice A52 y46.1.Unsure.length p53] rfl hk rfl rfl rfl ag35 sz35 (box_cells hs (k := 14) rfl) fun a hk => ?_
                      refine sm _ rfl hk rfl rfl rfl fun a hk => ?_
                      have hk := hk.re 103 (v' := (.agg #[.slice A48 y117.2.1.length p49, .slice A52 y117.2.2.length p53])) rfl (by rw [lh125, lh126])
                      obtain ⟨y176, h177, H⟩ := bind_some H
                      refine sc rfl en34 hk rfl rfl rfl (laws_heldDevice_t _ (⟨y117.2.1, y117.2.2⟩ : S_Device) A48 p49 _ o120.view (hs.hasG (k := 12) rfl) A52 p53 _ o123.view (hs.hasG (k := 13) rfl) 1 _ h177) ?_
                      rintro _ w ⟨rfl, hG⟩ a hk
                      have hs := hs.call0 hG
                      refine sa _ rfl hk rfl rfl rfl fun a hk => ?_
                      show wpList _ _ _ [] _ _
                      refine wpList_nil ?_
                      refine hK175 _ _ ?_
                      apply wp_seq_k; intro K178 hK178
                      apply wp_seq_k; intro K179 hK179
                      apply wp_region_lit
                      refine sm _ rfl hk rfl rfl rfl fun a hk => ?_
                      refine sv (.bool (decide (y176 < 0))) hk rfl rfl rfl fun a hk => ?_
                      show wpList _ _ _ [] _ _
                      refine wpList_nil ?_
                      refine hK179 _ _ ?_
                      rcases cond_some H with ⟨c180, H⟩ | ⟨c180, H⟩
                      · have hk := hk.lit 107 c180 rfl
                        refine cnd_true hk rfl rfl ?_
                        apply wp_seq_k; intro K181 hK181
                        apply wp_region_lit
                        refine sa _ rfl hk rfl rfl rfl fun a hk => ?_
                        show wpList _ _ _ [] _ _
                        refine wpList_nil ?_
                        refine hK181 _ _ ?_
                        refine wp_ret ?_
                        obtain rfl := Option.some.inj H
                        exact fin hk _ [(.bool false)] rfl ⟨rfl, trivial⟩ ⟨rfl, (hs.pick [] rfl).dnil⟩
                      · have hk := hk.lit 107 c180 rfl
                        refine cnd_false hk rfl rfl ?_
                        refine wp_skip ?_
                        refine hK178 _ _ ?_
                        apply wp_seq_k; intro K182 hK182
                        apply wp_seq_k; intro K183 hK183
                        apply wp_region_lit
                        refine sm _ rfl hk rfl rfl rfl fun a hk => ?_
                        refine sm _ rfl hk rfl rfl rfl fun a hk => ?_
                        refine sv (.bool (y176 != y117.1)) hk rfl rfl rfl fun a hk => ?_
                        show wpList _ _ _ [] _ _
                        refine wpList_nil ?_
                        refine hK183 _ _ ?_
                        rcases cond_some H with ⟨c184, H⟩ | ⟨c184, H⟩
                        · have hk := hk.lit 110 c184 rfl
                          refine cnd_true hk rfl rfl ?_
                          apply wp_seq_k; intro K185 hK185
                          apply wp_region_lit
                          refine sa _ rfl hk rfl rfl rfl fun a hk => ?_
                          show wpList _ _ _ [] _ _
                          refine wpList_nil ?_
                          refine hK185 _ _ ?_
                          refine wp_ret ?_
                          obtain rfl := Option.some.inj H
                          exact fin hk _ [(.bool false)] rfl ⟨rfl, trivial⟩ ⟨rfl, (hs.pick [] rfl).dnil⟩
                        · have hk := hk.lit 110 c184 rfl
                          refine cnd_false hk rfl rfl ?_
                          refine wp_skip ?_
                          refine hK182 _ _ ?_
                          apply wp_seq_k; intro K186 hK186
                          apply wp_region_lit
                          refine sa _ rfl hk rfl rfl rfl fun a hk => ?_
                          show wpList _ _ _ [] _ _
                          refine wpList_nil ?_
                          refine hK186 _ _ ?_
                          refine wp_ret ?_
                          obtain rfl := Option.some.inj H
                          exact fin hk _ [(.bool true)] rfl ⟨rfl, trivial⟩ ⟨rfl, (hs.pick [] rfl).dnil⟩

end Go.Proofs.Ytmafglodgnbajaa
