/- Further functions. -/
import Derived.Test.YtmafglodgnbajaaGXActOK
namespace Go.Proofs.Ytmafglodgnbajaa
open Go Go.Z Go.Proofs Go.MuLone Go.ChangeShapes Go.WideShapes Go.ChangeAt Go.RowKit
set_option linter.unusedVariables false
set_option linter.unusedSimpArgs false
noncomputable def impl_Act_isTorn.f (x0 : S_Act) : Option (Bool) :=
  (((bif (decide ((x0.Fates.length : Int) ≤ 100)) then ((impl_isTear.f x0.Phase x0.Fates).bind fun y11 => (some y11)) else (some false)) : Option (Bool)).bind fun u5 => (some u5))
set_option maxRecDepth 100000 in
set_option maxHeartbeats 0 in
theorem impl_Act_isTorn_t (w0 : World) (x0 : S_Act) (A0_0 : Option Addr) (p0_0 : Nat) (k0_0 : Chunk) (v0_0 : View L_impl_Txn A0_0 p0_0 x0.Batch k0_0) (w0_0 : Has w0 k0_0) (A0_1 : Option Addr) (p0_1 : Nat) (k0_1 : Chunk) (v0_1 : View (Lay.int .i64) A0_1 p0_1 x0.Draws k0_1) (w0_1 : Has w0 k0_1) (A0_2 : Option Addr) (p0_2 : Nat) (k0_2 : Chunk) (v0_2 : View (Lay.int .i64) A0_2 p0_2 x0.Fates k0_2) (w0_2 : Has w0 k0_2) (r : Bool) (H : impl_Act_isTorn.f x0 = some r) :
    Calls Try.prog 62 #[.agg #[.int .i64 x0.Kind, .int .i64 x0.Phase, .int .i64 x0.At, .int .i64 x0.Place, .int .i64 x0.By, .slice A0_0 x0.Batch.length p0_0, .slice A0_1 x0.Draws.length p0_1, .slice A0_2 x0.Fates.length p0_2]] w0 (Ret (fun v w => v = .bool r ∧ Sat [] w0 w [] [])) := by
  have hs : Sat [] w0 w0 [(1, k0_0), (2, k0_1), (3, k0_2)] [] := Sat.init w0 [(1, k0_0), (2, k0_1), (3, k0_2)] [] (by simp only [List.mem_cons, List.not_mem_nil, or_false]; rintro x (rfl | rfl | rfl) <;> assumption) (by simp) List.nodup_nil (by simp [blks])
  unfold impl_Act_isTorn.f at H
  refine enter Try.func62 rfl Try.ntmps62 rfl fun a hk => ?_
  apply wp_seq_k; intro K1 hK1
  apply wp_region_lit
  refine sbx 4 hs rfl hk rfl rfl rfl rfl fun b2 w a hk hs => ?_
  refine sa _ rfl hk rfl rfl rfl fun a hk => ?_
  show wpList _ _ _ [] _ _
  refine wpList_nil ?_
  refine hK1 _ _ ?_
  apply wp_seq_k; intro K3 hK3
  obtain ⟨o6, h7, HL8⟩ := bind_some H
  clear H
  obtain ⟨R9, hR9⟩ : ∃ R : Act → World → Prop, R = fun a w => ∃ (u5 : Bool), u5 = o6 ∧ Kn [(2, (.bool u5))] 14 a ∧ Sat [] w0 w [(1, k0_0), (2, k0_1), (3, k0_2)] [] := ⟨_, rfl⟩
  refine wp_cutq R9 ?_ ?_
  · have H := h7
    apply wp_region_lit
    refine sf ⟨b2, 7, none⟩ rfl hk rfl rfl rfl fd50_7 rfl fun a hk => ?_
    refine sl rfl hk rfl rfl rfl ag43 (box_cell hs (k := 4) rfl rfl) fun a hk => ?_
    refine sle rfl hk rfl rfl rfl un43 fun a hk => ?_
    refine sv (.bool (decide ((x0.Fates.length : Int) ≤ 100))) hk rfl rfl rfl fun a hk => ?_
    refine sm _ rfl hk rfl rfl rfl fun a hk => ?_
    rcases cond_some H with ⟨c10, H⟩ | ⟨c10, H⟩
    · have hk := hk.lit 7 c10 rfl
      refine sf ⟨b2, 1, none⟩ rfl hk rfl rfl rfl fd50_1 rfl fun a hk => ?_
      refine sl rfl hk rfl rfl rfl ag3 (box_cell hs (k := 4) rfl rfl) fun a hk => ?_
      refine sf ⟨b2, 7, none⟩ rfl hk rfl rfl rfl fd50_7 rfl fun a hk => ?_
      refine sl rfl hk rfl rfl rfl ag43 (box_cell hs (k := 4) rfl rfl) fun a hk => ?_
      obtain ⟨y11, h12, H⟩ := bind_some H
      refine sc rfl en102 hk rfl rfl rfl (impl_isTear_t _ x0.Phase A0_2 p0_2 x0.Fates _ v0_2 (hs.hasD (k := 3) rfl) _ h12) ?_
      rintro _ w ⟨rfl, hG⟩ a hk
      have hs := hs.call0 hG
      refine sv (.bool y11) hk rfl rfl rfl fun a hk => ?_
      refine sa _ rfl hk rfl rfl rfl fun a hk => ?_
      show wpList _ _ _ [] _ _
      refine wpList_nil ?_
      obtain rfl := Option.some.inj H
      show R9 _ _
      rw [hR9]
      exact ⟨y11, rfl, (hk.c 2 rfl hk.k), (hs.pick [] rfl)⟩
    · have hk := hk.lit 7 c10 rfl
      refine sk hk rfl rfl rfl fun a hk => ?_
      refine sk hk rfl rfl rfl fun a hk => ?_
      refine sk hk rfl rfl rfl fun a hk => ?_
      refine sk hk rfl rfl rfl fun a hk => ?_
      refine sk hk rfl rfl rfl fun a hk => ?_
      refine sv (.bool false) hk rfl rfl rfl fun a hk => ?_
      refine sa _ rfl hk rfl rfl rfl fun a hk => ?_
      show wpList _ _ _ [] _ _
      refine wpList_nil ?_
      obtain rfl := Option.some.inj H
      show R9 _ _
      rw [hR9]
      exact ⟨false, rfl, (hk.c 2 rfl hk.k), (hs.pick [] rfl)⟩
  · intro a w hR0
    rw [hR9] at hR0
    obtain ⟨u5, rfl, hk, hs⟩ := hR0
    have H := HL8
    try dsimp only at H
    refine hK3 _ _ ?_
    refine wp_ret ?_
    obtain rfl := Option.some.inj H
    exact fin hk _ [(.bool u5)] rfl ⟨rfl, trivial⟩ ⟨rfl, (hs.pick [] rfl).dnil⟩

noncomputable def impl_Act_isQuiet.f (x0 : S_Act) : Option (Bool) :=
  ((((impl_Act_isFateless.f x0).bind fun y10 => (bif y10 then (bif ((x0.Batch.length : Int) == 0) then (some ((x0.Draws.length : Int) == 0)) else (some false)) else (some false))) : Option (Bool)).bind fun u5 => (some u5))
set_option maxRecDepth 100000 in
set_option maxHeartbeats 0 in
theorem impl_Act_isQuiet_t (w0 : World) (x0 : S_Act) (A0_0 : Option Addr) (p0_0 : Nat) (k0_0 : Chunk) (v0_0 : View L_impl_Txn A0_0 p0_0 x0.Batch k0_0) (w0_0 : Has w0 k0_0) (A0_1 : Option Addr) (p0_1 : Nat) (k0_1 : Chunk) (v0_1 : View (Lay.int .i64) A0_1 p0_1 x0.Draws k0_1) (w0_1 : Has w0 k0_1) (A0_2 : Option Addr) (p0_2 : Nat) (k0_2 : Chunk) (v0_2 : View (Lay.int .i64) A0_2 p0_2 x0.Fates k0_2) (w0_2 : Has w0 k0_2) (r : Bool) (H : impl_Act_isQuiet.f x0 = some r) :
    Calls Try.prog 63 #[.agg #[.int .i64 x0.Kind, .int .i64 x0.Phase, .int .i64 x0.At, .int .i64 x0.Place, .int .i64 x0.By, .slice A0_0 x0.Batch.length p0_0, .slice A0_1 x0.Draws.length p0_1, .slice A0_2 x0.Fates.length p0_2]] w0 (Ret (fun v w => v = .bool r ∧ Sat [] w0 w [] [])) := by
  have hs : Sat [] w0 w0 [(1, k0_0), (2, k0_1), (3, k0_2)] [] := Sat.init w0 [(1, k0_0), (2, k0_1), (3, k0_2)] [] (by simp only [List.mem_cons, List.not_mem_nil, or_false]; rintro x (rfl | rfl | rfl) <;> assumption) (by simp) List.nodup_nil (by simp [blks])
  unfold impl_Act_isQuiet.f at H
  refine enter Try.func63 rfl Try.ntmps63 rfl fun a hk => ?_
  apply wp_seq_k; intro K1 hK1
  apply wp_region_lit
  refine sbx 4 hs rfl hk rfl rfl rfl rfl fun b2 w a hk hs => ?_
  refine sa _ rfl hk rfl rfl rfl fun a hk => ?_
  show wpList _ _ _ [] _ _
  refine wpList_nil ?_
  refine hK1 _ _ ?_
  apply wp_seq_k; intro K3 hK3
  obtain ⟨o6, h7, HL8⟩ := bind_some H
  clear H
  obtain ⟨R9, hR9⟩ : ∃ R : Act → World → Prop, R = fun a w => ∃ (u5 : Bool), u5 = o6 ∧ Kn [(2, (.bool u5))] 17 a ∧ Sat [] w0 w [(1, k0_0), (2, k0_1), (3, k0_2)] [] := ⟨_, rfl⟩
  refine wp_cutq R9 ?_ ?_
  · have H := h7
    apply wp_region_lit
    refine sln [.int .i64 x0.Kind, .int .i64 x0.Phase, .int .i64 x0.At, .int .i64 x0.Place, .int .i64 x0.By, .slice A0_0 x0.Batch.length p0_0, .slice A0_1 x0.Draws.length p0_1, .slice A0_2 x0.Fates.length p0_2] rfl hk rfl rfl rfl ag50 sz50 (box_cells hs (k := 4) rfl) fun a hk => ?_
    obtain ⟨y10, h11, H⟩ := bind_some H
    refine sc rfl en60 hk rfl rfl rfl (impl_Act_isFateless_t _ x0 A0_0 p0_0 _ v0_0 (hs.hasD (k := 1) rfl) A0_1 p0_1 _ v0_1 (hs.hasD (k := 2) rfl) A0_2 p0_2 _ v0_2 (hs.hasD (k := 3) rfl) _ h11) ?_
    rintro _ w ⟨rfl, hG⟩ a hk
    have hs := hs.call0 hG
    refine sm _ rfl hk rfl rfl rfl fun a hk => ?_
    rcases cond_some H with ⟨c12, H⟩ | ⟨c12, H⟩
    · have hk := hk.lit 5 c12 rfl
      refine sf ⟨b2, 5, none⟩ rfl hk rfl rfl rfl fd50_5 rfl fun a hk => ?_
      refine sl rfl hk rfl rfl rfl ag48 (box_cell hs (k := 4) rfl rfl) fun a hk => ?_
      refine sle rfl hk rfl rfl rfl un48 fun a hk => ?_
      refine sv (.bool ((x0.Batch.length : Int) == 0)) hk rfl rfl rfl fun a hk => ?_
      refine sv (.bool ((x0.Batch.length : Int) == 0)) hk rfl rfl rfl fun a hk => ?_
      refine sm _ rfl hk rfl rfl rfl fun a hk => ?_
      rcases cond_some H with ⟨c13, H⟩ | ⟨c13, H⟩
      · have hk := hk.lit 11 c13 rfl
        refine sf ⟨b2, 6, none⟩ rfl hk rfl rfl rfl fd50_6 rfl fun a hk => ?_
        refine sl rfl hk rfl rfl rfl ag43 (box_cell hs (k := 4) rfl rfl) fun a hk => ?_
        refine sle rfl hk rfl rfl rfl un43 fun a hk => ?_
        refine sv (.bool ((x0.Draws.length : Int) == 0)) hk rfl rfl rfl fun a hk => ?_
        refine sv (.bool ((x0.Draws.length : Int) == 0)) hk rfl rfl rfl fun a hk => ?_
        refine sa _ rfl hk rfl rfl rfl fun a hk => ?_
        show wpList _ _ _ [] _ _
        refine wpList_nil ?_
        obtain rfl := Option.some.inj H
        show R9 _ _
        rw [hR9]
        exact ⟨((x0.Draws.length : Int) == 0), rfl, (hk.c 2 rfl hk.k), (hs.pick [] rfl)⟩
      · have hk := hk.lit 11 c13 rfl
        refine sk hk rfl rfl rfl fun a hk => ?_
        refine sk hk rfl rfl rfl fun a hk => ?_
        refine sk hk rfl rfl rfl fun a hk => ?_
        refine sk hk rfl rfl rfl fun a hk => ?_
        refine sv (.bool false) hk rfl rfl rfl fun a hk => ?_
        refine sa _ rfl hk rfl rfl rfl fun a hk => ?_
        show wpList _ _ _ [] _ _
        refine wpList_nil ?_
        obtain rfl := Option.some.inj H
        show R9 _ _
        rw [hR9]
        exact ⟨false, rfl, (hk.c 2 rfl hk.k), (hs.pick [] rfl)⟩
    · have hk := hk.lit 5 c12 rfl
      refine sk hk rfl rfl rfl fun a hk => ?_
      refine sk hk rfl rfl rfl fun a hk => ?_
      refine sk hk rfl rfl rfl fun a hk => ?_
      refine sk hk rfl rfl rfl fun a hk => ?_
      refine sv (.bool false) hk rfl rfl rfl fun a hk => ?_
      refine sm _ rfl hk rfl rfl rfl fun a hk => ?_
      refine sk hk rfl rfl rfl fun a hk => ?_
      refine sk hk rfl rfl rfl fun a hk => ?_
      refine sk hk rfl rfl rfl fun a hk => ?_
      refine sk hk rfl rfl rfl fun a hk => ?_
      refine sv (.bool false) hk rfl rfl rfl fun a hk => ?_
      refine sa _ rfl hk rfl rfl rfl fun a hk => ?_
      show wpList _ _ _ [] _ _
      refine wpList_nil ?_
      obtain rfl := Option.some.inj H
      show R9 _ _
      rw [hR9]
      exact ⟨false, rfl, (hk.c 2 rfl hk.k), (hs.pick [] rfl)⟩
  · intro a w hR0
    rw [hR9] at hR0
    obtain ⟨u5, rfl, hk, hs⟩ := hR0
    have H := HL8
    try dsimp only at H
    refine hK3 _ _ ?_
    refine wp_ret ?_
    obtain rfl := Option.some.inj H
    exact fin hk _ [(.bool u5)] rfl ⟨rfl, trivial⟩ ⟨rfl, (hs.pick [] rfl).dnil⟩

noncomputable def impl_ActOK.f (x0 : S_Act) : Option (Bool) :=
  (bif (x0.Kind == 1) then ((((impl_Act_isSubmission.f x0).bind fun y14 => (bif y14 then ((impl_Act_isFateless.f x0).bind fun y17 => (bif y17 then ((impl_Act_isNowhere.f x0).bind fun y20 => (some y20)) else (some false))) else (some false))) : Option (Bool)).bind fun u9 => (some u9)) else (bif (x0.Kind == 6) then ((((impl_Act_isSubmission.f x0).bind fun y31 => (bif y31 then ((impl_Act_isTorn.f x0).bind fun y34 => (bif y34 then ((impl_Act_isNowhere.f x0).bind fun y37 => (some y37)) else (some false))) else (some false))) : Option (Bool)).bind fun u26 => (some u26)) else (bif (x0.Kind == 7) then ((((impl_Act_isTorn.f x0).bind fun y48 => (bif y48 then ((impl_Act_isNowhere.f x0).bind fun y51 => (bif y51 then (bif ((x0.Batch.length : Int) == 0) then (some ((x0.Draws.length : Int) == 0)) else (some false)) else (some false))) else (some false))) : Option (Bool)).bind fun u43 => (some u43)) else (bif (x0.Kind == 8) then ((((impl_Act_isQuiet.f x0).bind fun y64 => (bif y64 then ((impl_isSector.f x0.At).bind fun y67 => (bif y67 then ((impl_within.f x0.Place 0 699).bind fun y70 => (bif y70 then ((impl_within.f x0.By 1 255).bind fun y73 => (some y73)) else (some false))) else (some false))) else (some false))) : Option (Bool)).bind fun u59 => (some u59)) else ((((impl_within.f x0.Kind 1 10).bind fun y82 => (bif y82 then ((impl_Act_isQuiet.f x0).bind fun y85 => (bif y85 then ((impl_Act_isNowhere.f x0).bind fun y88 => (some y88)) else (some false))) else (some false))) : Option (Bool)).bind fun u77 => (some u77))))))
set_option maxRecDepth 100000 in
set_option maxHeartbeats 0 in
theorem impl_ActOK_t (w0 : World) (x0 : S_Act) (A0_0 : Option Addr) (p0_0 : Nat) (k0_0 : Chunk) (v0_0 : View L_impl_Txn A0_0 p0_0 x0.Batch k0_0) (w0_0 : Has w0 k0_0) (A0_1 : Option Addr) (p0_1 : Nat) (k0_1 : Chunk) (v0_1 : View (Lay.int .i64) A0_1 p0_1 x0.Draws k0_1) (w0_1 : Has w0 k0_1) (A0_2 : Option Addr) (p0_2 : Nat) (k0_2 : Chunk) (v0_2 : View (Lay.int .i64) A0_2 p0_2 x0.Fates k0_2) (w0_2 : Has w0 k0_2) (r : Bool) (H : impl_ActOK.f x0 = some r) :
    Calls Try.prog 21 #[.agg #[.int .i64 x0.Kind, .int .i64 x0.Phase, .int .i64 x0.At, .int .i64 x0.Place, .int .i64 x0.By, .slice A0_0 x0.Batch.length p0_0, .slice A0_1 x0.Draws.length p0_1, .slice A0_2 x0.Fates.length p0_2]] w0 (Ret (fun v w => v = .bool r ∧ Sat [] w0 w [] [])) := by
  have hs : Sat [] w0 w0 [(1, k0_0), (2, k0_1), (3, k0_2)] [] := Sat.init w0 [(1, k0_0), (2, k0_1), (3, k0_2)] [] (by simp only [List.mem_cons, List.not_mem_nil, or_false]; rintro x (rfl | rfl | rfl) <;> assumption) (by simp) List.nodup_nil (by simp [blks])
  unfold impl_ActOK.f at H
  refine enter Try.func21 rfl Try.ntmps21 rfl fun a hk => ?_
  apply wp_seq_k; intro K1 hK1
  apply wp_region_lit
  refine sbx 4 hs rfl hk rfl rfl rfl rfl fun b2 w a hk hs => ?_
  refine sa _ rfl hk rfl rfl rfl fun a hk => ?_
  show wpList _ _ _ [] _ _
  refine wpList_nil ?_
  refine hK1 _ _ ?_
  apply wp_seq_k; intro K3 hK3
  apply wp_seq_k; intro K4 hK4
  apply wp_region_lit
  refine sf ⟨b2, 0, none⟩ rfl hk rfl rfl rfl fd50_0 rfl fun a hk => ?_
  refine sl rfl hk rfl rfl rfl ag3 (box_cell hs (k := 4) rfl rfl) fun a hk => ?_
  show wpList _ _ _ [] _ _
  refine wpList_nil ?_
  refine hK4 _ _ ?_
  refine wp_block ?_
  apply wp_seq_k; intro K5 hK5
  apply wp_region_lit
  refine sv (.bool (x0.Kind == 1)) hk rfl rfl rfl fun a hk => ?_
  refine sa _ rfl hk rfl rfl rfl fun a hk => ?_
  show wpList _ _ _ [] _ _
  refine wpList_nil ?_
  refine hK5 _ _ ?_
  rcases cond_some H with ⟨c6, H⟩ | ⟨c6, H⟩
  · have hk := hk.lit 5 c6 rfl
    refine cnd_true hk rfl rfl ?_
    apply wp_seq_k; intro K7 hK7
    obtain ⟨o10, h11, HL12⟩ := bind_some H
    clear H
    obtain ⟨R13, hR13⟩ : ∃ R : Act → World → Prop, R = fun a w => ∃ (u9 : Bool), u9 = o10 ∧ Kn [(2, (.bool u9))] 79 a ∧ Sat [] w0 w [(1, k0_0), (2, k0_1), (3, k0_2)] [] := ⟨_, rfl⟩
    refine wp_cutq R13 ?_ ?_
    · have H := h11
      apply wp_region_lit
      refine sln [.int .i64 x0.Kind, .int .i64 x0.Phase, .int .i64 x0.At, .int .i64 x0.Place, .int .i64 x0.By, .slice A0_0 x0.Batch.length p0_0, .slice A0_1 x0.Draws.length p0_1, .slice A0_2 x0.Fates.length p0_2] rfl hk rfl rfl rfl ag50 sz50 (box_cells hs (k := 4) rfl) fun a hk => ?_
      obtain ⟨y14, h15, H⟩ := bind_some H
      refine sc rfl en59 hk rfl rfl rfl (impl_Act_isSubmission_t _ x0 A0_0 p0_0 _ v0_0 (hs.hasD (k := 1) rfl) A0_1 p0_1 _ v0_1 (hs.hasD (k := 2) rfl) A0_2 p0_2 _ v0_2 (hs.hasD (k := 3) rfl) _ h15) ?_
      rintro _ w ⟨rfl, hG⟩ a hk
      have hs := hs.call0 hG
      refine sm _ rfl hk rfl rfl rfl fun a hk => ?_
      rcases cond_some H with ⟨c16, H⟩ | ⟨c16, H⟩
      · have hk := hk.lit 9 c16 rfl
        refine sln [.int .i64 x0.Kind, .int .i64 x0.Phase, .int .i64 x0.At, .int .i64 x0.Place, .int .i64 x0.By, .slice A0_0 x0.Batch.length p0_0, .slice A0_1 x0.Draws.length p0_1, .slice A0_2 x0.Fates.length p0_2] rfl hk rfl rfl rfl ag50 sz50 (box_cells hs (k := 4) rfl) fun a hk => ?_
        obtain ⟨y17, h18, H⟩ := bind_some H
        refine sc rfl en60 hk rfl rfl rfl (impl_Act_isFateless_t _ x0 A0_0 p0_0 _ v0_0 (hs.hasD (k := 1) rfl) A0_1 p0_1 _ v0_1 (hs.hasD (k := 2) rfl) A0_2 p0_2 _ v0_2 (hs.hasD (k := 3) rfl) _ h18) ?_
        rintro _ w ⟨rfl, hG⟩ a hk
        have hs := hs.call0 hG
        refine sv (.bool y17) hk rfl rfl rfl fun a hk => ?_
        refine sm _ rfl hk rfl rfl rfl fun a hk => ?_
        rcases cond_some H with ⟨c19, H⟩ | ⟨c19, H⟩
        · have hk := hk.lit 13 c19 rfl
          refine sln [.int .i64 x0.Kind, .int .i64 x0.Phase, .int .i64 x0.At, .int .i64 x0.Place, .int .i64 x0.By, .slice A0_0 x0.Batch.length p0_0, .slice A0_1 x0.Draws.length p0_1, .slice A0_2 x0.Fates.length p0_2] rfl hk rfl rfl rfl ag50 sz50 (box_cells hs (k := 4) rfl) fun a hk => ?_
          obtain ⟨y20, h21, H⟩ := bind_some H
          refine sc rfl en61 hk rfl rfl rfl (impl_Act_isNowhere_t _ x0 A0_0 p0_0 _ v0_0 (hs.hasD (k := 1) rfl) A0_1 p0_1 _ v0_1 (hs.hasD (k := 2) rfl) A0_2 p0_2 _ v0_2 (hs.hasD (k := 3) rfl) _ h21) ?_
          rintro _ w ⟨rfl, hG⟩ a hk
          have hs := hs.call0 hG
          refine sv (.bool y20) hk rfl rfl rfl fun a hk => ?_
          refine sa _ rfl hk rfl rfl rfl fun a hk => ?_
          show wpList _ _ _ [] _ _
          refine wpList_nil ?_
          obtain rfl := Option.some.inj H
          show R13 _ _
          rw [hR13]
          exact ⟨y20, rfl, (hk.c 2 rfl hk.k), (hs.pick [] rfl)⟩
        · have hk := hk.lit 13 c19 rfl
          refine sk hk rfl rfl rfl fun a hk => ?_
          refine sk hk rfl rfl rfl fun a hk => ?_
          refine sv (.bool false) hk rfl rfl rfl fun a hk => ?_
          refine sa _ rfl hk rfl rfl rfl fun a hk => ?_
          show wpList _ _ _ [] _ _
          refine wpList_nil ?_
          obtain rfl := Option.some.inj H
          show R13 _ _
          rw [hR13]
          exact ⟨false, rfl, (hk.c 2 rfl hk.k), (hs.pick [] rfl)⟩
      · have hk := hk.lit 9 c16 rfl
        refine sk hk rfl rfl rfl fun a hk => ?_
        refine sk hk rfl rfl rfl fun a hk => ?_
        refine sv (.bool false) hk rfl rfl rfl fun a hk => ?_
        refine sm _ rfl hk rfl rfl rfl fun a hk => ?_
        refine sk hk rfl rfl rfl fun a hk => ?_
        refine sk hk rfl rfl rfl fun a hk => ?_
        refine sv (.bool false) hk rfl rfl rfl fun a hk => ?_
        refine sa _ rfl hk rfl rfl rfl fun a hk => ?_
        show wpList _ _ _ [] _ _
        refine wpList_nil ?_
        obtain rfl := Option.some.inj H
        show R13 _ _
        rw [hR13]
        exact ⟨false, rfl, (hk.c 2 rfl hk.k), (hs.pick [] rfl)⟩
    · intro a w hR0
      rw [hR13] at hR0
      obtain ⟨u9, rfl, hk, hs⟩ := hR0
      have H := HL12
      try dsimp only at H
      refine hK7 _ _ ?_
      refine wp_ret ?_
      obtain rfl := Option.some.inj H
      exact fin hk _ [(.bool u9)] rfl ⟨rfl, trivial⟩ ⟨rfl, (hs.pick [] rfl).dnil⟩
  · have hk := hk.lit 5 c6 rfl
    refine cnd_false hk rfl rfl ?_
    apply wp_seq_k; intro K22 hK22
    apply wp_region_lit
    refine sv (.bool (x0.Kind == 6)) hk rfl rfl rfl fun a hk => ?_
    refine sa _ rfl hk rfl rfl rfl fun a hk => ?_
    show wpList _ _ _ [] _ _
    refine wpList_nil ?_
    refine hK22 _ _ ?_
    rcases cond_some H with ⟨c23, H⟩ | ⟨c23, H⟩
    · have hk := hk.lit 17 c23 rfl
      refine cnd_true hk rfl rfl ?_
      apply wp_seq_k; intro K24 hK24
      obtain ⟨o27, h28, HL29⟩ := bind_some H
      clear H
      obtain ⟨R30, hR30⟩ : ∃ R : Act → World → Prop, R = fun a w => ∃ (u26 : Bool), u26 = o27 ∧ Kn [(2, (.bool u26))] 79 a ∧ Sat [] w0 w [(1, k0_0), (2, k0_1), (3, k0_2)] [] := ⟨_, rfl⟩
      refine wp_cutq R30 ?_ ?_
      · have H := h28
        apply wp_region_lit
        refine sln [.int .i64 x0.Kind, .int .i64 x0.Phase, .int .i64 x0.At, .int .i64 x0.Place, .int .i64 x0.By, .slice A0_0 x0.Batch.length p0_0, .slice A0_1 x0.Draws.length p0_1, .slice A0_2 x0.Fates.length p0_2] rfl hk rfl rfl rfl ag50 sz50 (box_cells hs (k := 4) rfl) fun a hk => ?_
        obtain ⟨y31, h32, H⟩ := bind_some H
        refine sc rfl en59 hk rfl rfl rfl (impl_Act_isSubmission_t _ x0 A0_0 p0_0 _ v0_0 (hs.hasD (k := 1) rfl) A0_1 p0_1 _ v0_1 (hs.hasD (k := 2) rfl) A0_2 p0_2 _ v0_2 (hs.hasD (k := 3) rfl) _ h32) ?_
        rintro _ w ⟨rfl, hG⟩ a hk
        have hs := hs.call0 hG
        refine sm _ rfl hk rfl rfl rfl fun a hk => ?_
        rcases cond_some H with ⟨c33, H⟩ | ⟨c33, H⟩
        · have hk := hk.lit 21 c33 rfl
          refine sln [.int .i64 x0.Kind, .int .i64 x0.Phase, .int .i64 x0.At, .int .i64 x0.Place, .int .i64 x0.By, .slice A0_0 x0.Batch.length p0_0, .slice A0_1 x0.Draws.length p0_1, .slice A0_2 x0.Fates.length p0_2] rfl hk rfl rfl rfl ag50 sz50 (box_cells hs (k := 4) rfl) fun a hk => ?_
          obtain ⟨y34, h35, H⟩ := bind_some H
          refine sc rfl en62 hk rfl rfl rfl (impl_Act_isTorn_t _ x0 A0_0 p0_0 _ v0_0 (hs.hasD (k := 1) rfl) A0_1 p0_1 _ v0_1 (hs.hasD (k := 2) rfl) A0_2 p0_2 _ v0_2 (hs.hasD (k := 3) rfl) _ h35) ?_
          rintro _ w ⟨rfl, hG⟩ a hk
          have hs := hs.call0 hG
          refine sv (.bool y34) hk rfl rfl rfl fun a hk => ?_
          refine sm _ rfl hk rfl rfl rfl fun a hk => ?_
          rcases cond_some H with ⟨c36, H⟩ | ⟨c36, H⟩
          · have hk := hk.lit 25 c36 rfl
            refine sln [.int .i64 x0.Kind, .int .i64 x0.Phase, .int .i64 x0.At, .int .i64 x0.Place, .int .i64 x0.By, .slice A0_0 x0.Batch.length p0_0, .slice A0_1 x0.Draws.length p0_1, .slice A0_2 x0.Fates.length p0_2] rfl hk rfl rfl rfl ag50 sz50 (box_cells hs (k := 4) rfl) fun a hk => ?_
            obtain ⟨y37, h38, H⟩ := bind_some H
            refine sc rfl en61 hk rfl rfl rfl (impl_Act_isNowhere_t _ x0 A0_0 p0_0 _ v0_0 (hs.hasD (k := 1) rfl) A0_1 p0_1 _ v0_1 (hs.hasD (k := 2) rfl) A0_2 p0_2 _ v0_2 (hs.hasD (k := 3) rfl) _ h38) ?_
            rintro _ w ⟨rfl, hG⟩ a hk
            have hs := hs.call0 hG
            refine sv (.bool y37) hk rfl rfl rfl fun a hk => ?_
            refine sa _ rfl hk rfl rfl rfl fun a hk => ?_
            show wpList _ _ _ [] _ _
            refine wpList_nil ?_
            obtain rfl := Option.some.inj H
            show R30 _ _
            rw [hR30]
            exact ⟨y37, rfl, (hk.c 2 rfl hk.k), (hs.pick [] rfl)⟩
          · have hk := hk.lit 25 c36 rfl
            refine sk hk rfl rfl rfl fun a hk => ?_
            refine sk hk rfl rfl rfl fun a hk => ?_
            refine sv (.bool false) hk rfl rfl rfl fun a hk => ?_
            refine sa _ rfl hk rfl rfl rfl fun a hk => ?_
            show wpList _ _ _ [] _ _
            refine wpList_nil ?_
            obtain rfl := Option.some.inj H
            show R30 _ _
            rw [hR30]
            exact ⟨false, rfl, (hk.c 2 rfl hk.k), (hs.pick [] rfl)⟩
        · have hk := hk.lit 21 c33 rfl
          refine sk hk rfl rfl rfl fun a hk => ?_
          refine sk hk rfl rfl rfl fun a hk => ?_
          refine sv (.bool false) hk rfl rfl rfl fun a hk => ?_
          refine sm _ rfl hk rfl rfl rfl fun a hk => ?_
          refine sk hk rfl rfl rfl fun a hk => ?_
          refine sk hk rfl rfl rfl fun a hk => ?_
          refine sv (.bool false) hk rfl rfl rfl fun a hk => ?_
          refine sa _ rfl hk rfl rfl rfl fun a hk => ?_
          show wpList _ _ _ [] _ _
          refine wpList_nil ?_
          obtain rfl := Option.some.inj H
          show R30 _ _
          rw [hR30]
          exact ⟨false, rfl, (hk.c 2 rfl hk.k), (hs.pick [] rfl)⟩
      · intro a w hR0
        rw [hR30] at hR0
        obtain ⟨u26, rfl, hk, hs⟩ := hR0
        have H := HL29
        try dsimp only at H
        refine hK24 _ _ ?_
        refine wp_ret ?_
        obtain rfl := Option.some.inj H
        exact fin hk _ [(.bool u26)] rfl ⟨rfl, trivial⟩ ⟨rfl, (hs.pick [] rfl).dnil⟩
    · have hk := hk.lit 17 c23 rfl
      refine cnd_false hk rfl rfl ?_
      apply wp_seq_k; intro K39 hK39
      apply wp_region_lit
      refine sv (.bool (x0.Kind == 7)) hk rfl rfl rfl fun a hk => ?_
      refine sa _ rfl hk rfl rfl rfl fun a hk => ?_
      show wpList _ _ _ [] _ _
      refine wpList_nil ?_
      refine hK39 _ _ ?_
      rcases cond_some H with ⟨c40, H⟩ | ⟨c40, H⟩
      · have hk := hk.lit 29 c40 rfl
        refine cnd_true hk rfl rfl ?_
        apply wp_seq_k; intro K41 hK41
        obtain ⟨o44, h45, HL46⟩ := bind_some H
        clear H
        obtain ⟨R47, hR47⟩ : ∃ R : Act → World → Prop, R = fun a w => ∃ (u43 : Bool), u43 = o44 ∧ Kn [(2, (.bool u43))] 79 a ∧ Sat [] w0 w [(1, k0_0), (2, k0_1), (3, k0_2)] [] := ⟨_, rfl⟩
        refine wp_cutq R47 ?_ ?_
        · have H := h45
          apply wp_region_lit
          refine sln [.int .i64 x0.Kind, .int .i64 x0.Phase, .int .i64 x0.At, .int .i64 x0.Place, .int .i64 x0.By, .slice A0_0 x0.Batch.length p0_0, .slice A0_1 x0.Draws.length p0_1, .slice A0_2 x0.Fates.length p0_2] rfl hk rfl rfl rfl ag50 sz50 (box_cells hs (k := 4) rfl) fun a hk => ?_
          obtain ⟨y48, h49, H⟩ := bind_some H
          refine sc rfl en62 hk rfl rfl rfl (impl_Act_isTorn_t _ x0 A0_0 p0_0 _ v0_0 (hs.hasD (k := 1) rfl) A0_1 p0_1 _ v0_1 (hs.hasD (k := 2) rfl) A0_2 p0_2 _ v0_2 (hs.hasD (k := 3) rfl) _ h49) ?_
          rintro _ w ⟨rfl, hG⟩ a hk
          have hs := hs.call0 hG
          refine sm _ rfl hk rfl rfl rfl fun a hk => ?_
          rcases cond_some H with ⟨c50, H⟩ | ⟨c50, H⟩
          · have hk := hk.lit 33 c50 rfl
            refine sln [.int .i64 x0.Kind, .int .i64 x0.Phase, .int .i64 x0.At, .int .i64 x0.Place, .int .i64 x0.By, .slice A0_0 x0.Batch.length p0_0, .slice A0_1 x0.Draws.length p0_1, .slice A0_2 x0.Fates.length p0_2] rfl hk rfl rfl rfl ag50 sz50 (box_cells hs (k := 4) rfl) fun a hk => ?_
            obtain ⟨y51, h52, H⟩ := bind_some H
            refine sc rfl en61 hk rfl rfl rfl (impl_Act_isNowhere_t _ x0 A0_0 p0_0 _ v0_0 (hs.hasD (k := 1) rfl) A0_1 p0_1 _ v0_1 (hs.hasD (k := 2) rfl) A0_2 p0_2 _ v0_2 (hs.hasD (k := 3) rfl) _ h52) ?_
            rintro _ w ⟨rfl, hG⟩ a hk
            have hs := hs.call0 hG
            refine sv (.bool y51) hk rfl rfl rfl fun a hk => ?_
            refine sm _ rfl hk rfl rfl rfl fun a hk => ?_
            rcases cond_some H with ⟨c53, H⟩ | ⟨c53, H⟩
            · have hk := hk.lit 37 c53 rfl
              refine sf ⟨b2, 5, none⟩ rfl hk rfl rfl rfl fd50_5 rfl fun a hk => ?_
              refine sl rfl hk rfl rfl rfl ag48 (box_cell hs (k := 4) rfl rfl) fun a hk => ?_
              refine sle rfl hk rfl rfl rfl un48 fun a hk => ?_
              refine sv (.bool ((x0.Batch.length : Int) == 0)) hk rfl rfl rfl fun a hk => ?_
              refine sv (.bool ((x0.Batch.length : Int) == 0)) hk rfl rfl rfl fun a hk => ?_
              refine sm _ rfl hk rfl rfl rfl fun a hk => ?_
              rcases cond_some H with ⟨c54, H⟩ | ⟨c54, H⟩
              · have hk := hk.lit 43 c54 rfl
                refine sf ⟨b2, 6, none⟩ rfl hk rfl rfl rfl fd50_6 rfl fun a hk => ?_
                refine sl rfl hk rfl rfl rfl ag43 (box_cell hs (k := 4) rfl rfl) fun a hk => ?_
                refine sle rfl hk rfl rfl rfl un43 fun a hk => ?_
                refine sv (.bool ((x0.Draws.length : Int) == 0)) hk rfl rfl rfl fun a hk => ?_
                refine sv (.bool ((x0.Draws.length : Int) == 0)) hk rfl rfl rfl fun a hk => ?_
                refine sa _ rfl hk rfl rfl rfl fun a hk => ?_
                show wpList _ _ _ [] _ _
                refine wpList_nil ?_
                obtain rfl := Option.some.inj H
                show R47 _ _
                rw [hR47]
                exact ⟨((x0.Draws.length : Int) == 0), rfl, (hk.c 2 rfl hk.k), (hs.pick [] rfl)⟩
              · have hk := hk.lit 43 c54 rfl
                refine sk hk rfl rfl rfl fun a hk => ?_
                refine sk hk rfl rfl rfl fun a hk => ?_
                refine sk hk rfl rfl rfl fun a hk => ?_
                refine sk hk rfl rfl rfl fun a hk => ?_
                refine sv (.bool false) hk rfl rfl rfl fun a hk => ?_
                refine sa _ rfl hk rfl rfl rfl fun a hk => ?_
                show wpList _ _ _ [] _ _
                refine wpList_nil ?_
                obtain rfl := Option.some.inj H
                show R47 _ _
                rw [hR47]
                exact ⟨false, rfl, (hk.c 2 rfl hk.k), (hs.pick [] rfl)⟩
            · have hk := hk.lit 37 c53 rfl
              refine sk hk rfl rfl rfl fun a hk => ?_
              refine sk hk rfl rfl rfl fun a hk => ?_
              refine sk hk rfl rfl rfl fun a hk => ?_
              refine sk hk rfl rfl rfl fun a hk => ?_
              refine sv (.bool false) hk rfl rfl rfl fun a hk => ?_
              refine sm _ rfl hk rfl rfl rfl fun a hk => ?_
              refine sk hk rfl rfl rfl fun a hk => ?_
              refine sk hk rfl rfl rfl fun a hk => ?_
              refine sk hk rfl rfl rfl fun a hk => ?_
              refine sk hk rfl rfl rfl fun a hk => ?_
              refine sv (.bool false) hk rfl rfl rfl fun a hk => ?_
              refine sa _ rfl hk rfl rfl rfl fun a hk => ?_
              show wpList _ _ _ [] _ _
              refine wpList_nil ?_
              obtain rfl := Option.some.inj H
              show R47 _ _
              rw [hR47]
              exact ⟨false, rfl, (hk.c 2 rfl hk.k), (hs.pick [] rfl)⟩
          · have hk := hk.lit 33 c50 rfl
            refine sk hk rfl rfl rfl fun a hk => ?_
            refine sk hk rfl rfl rfl fun a hk => ?_
            refine sv (.bool false) hk rfl rfl rfl fun a hk => ?_
            refine sm _ rfl hk rfl rfl rfl fun a hk => ?_
            refine sk hk rfl rfl rfl fun a hk => ?_
            refine sk hk rfl rfl rfl fun a hk => ?_
            refine sk hk rfl rfl rfl fun a hk => ?_
            refine sk hk rfl rfl rfl fun a hk => ?_
            refine sv (.bool false) hk rfl rfl rfl fun a hk => ?_
            refine sm _ rfl hk rfl rfl rfl fun a hk => ?_
            refine sk hk rfl rfl rfl fun a hk => ?_
            refine sk hk rfl rfl rfl fun a hk => ?_
            refine sk hk rfl rfl rfl fun a hk => ?_
            refine sk hk rfl rfl rfl fun a hk => ?_
            refine sv (.bool false) hk rfl rfl rfl fun a hk => ?_
            refine sa _ rfl hk rfl rfl rfl fun a hk => ?_
            show wpList _ _ _ [] _ _
            refine wpList_nil ?_
            obtain rfl := Option.some.inj H
            show R47 _ _
            rw [hR47]
            exact ⟨false, rfl, (hk.c 2 rfl hk.k), (hs.pick [] rfl)⟩
        · intro a w hR0
          rw [hR47] at hR0
          obtain ⟨u43, rfl, hk, hs⟩ := hR0
          have H := HL46
          try dsimp only at H
          refine hK41 _ _ ?_
          refine wp_ret ?_
          obtain rfl := Option.some.inj H
          exact fin hk _ [(.bool u43)] rfl ⟨rfl, trivial⟩ ⟨rfl, (hs.pick [] rfl).dnil⟩
      · have hk := hk.lit 29 c40 rfl
        refine cnd_false hk rfl rfl ?_
        apply wp_seq_k; intro K55 hK55
        apply wp_region_lit
        refine sv (.bool (x0.Kind == 8)) hk rfl rfl rfl fun a hk => ?_
        refine sa _ rfl hk rfl rfl rfl fun a hk => ?_
        show wpList _ _ _ [] _ _
        refine wpList_nil ?_
        refine hK55 _ _ ?_
        rcases cond_some H with ⟨c56, H⟩ | ⟨c56, H⟩
        · have hk := hk.lit 49 c56 rfl
          refine cnd_true hk rfl rfl ?_
          apply wp_seq_k; intro K57 hK57
          obtain ⟨o60, h61, HL62⟩ := bind_some H
          clear H
          obtain ⟨R63, hR63⟩ : ∃ R : Act → World → Prop, R = fun a w => ∃ (u59 : Bool), u59 = o60 ∧ Kn [(2, (.bool u59))] 79 a ∧ Sat [] w0 w [(1, k0_0), (2, k0_1), (3, k0_2)] [] := ⟨_, rfl⟩
          refine wp_cutq R63 ?_ ?_
          · have H := h61
            apply wp_region_lit
            refine sln [.int .i64 x0.Kind, .int .i64 x0.Phase, .int .i64 x0.At, .int .i64 x0.Place, .int .i64 x0.By, .slice A0_0 x0.Batch.length p0_0, .slice A0_1 x0.Draws.length p0_1, .slice A0_2 x0.Fates.length p0_2] rfl hk rfl rfl rfl ag50 sz50 (box_cells hs (k := 4) rfl) fun a hk => ?_
            obtain ⟨y64, h65, H⟩ := bind_some H
            refine sc rfl en63 hk rfl rfl rfl (impl_Act_isQuiet_t _ x0 A0_0 p0_0 _ v0_0 (hs.hasD (k := 1) rfl) A0_1 p0_1 _ v0_1 (hs.hasD (k := 2) rfl) A0_2 p0_2 _ v0_2 (hs.hasD (k := 3) rfl) _ h65) ?_
            rintro _ w ⟨rfl, hG⟩ a hk
            have hs := hs.call0 hG
            refine sm _ rfl hk rfl rfl rfl fun a hk => ?_
            rcases cond_some H with ⟨c66, H⟩ | ⟨c66, H⟩
            · have hk := hk.lit 53 c66 rfl
              refine sf ⟨b2, 2, none⟩ rfl hk rfl rfl rfl fd50_2 rfl fun a hk => ?_
              refine sl rfl hk rfl rfl rfl ag3 (box_cell hs (k := 4) rfl rfl) fun a hk => ?_
              obtain ⟨y67, h68, H⟩ := bind_some H
              refine sc rfl en64 hk rfl rfl rfl (impl_isSector_t _ x0.At _ h68) ?_
              rintro _ w ⟨rfl, hG⟩ a hk
              have hs := hs.call0 hG
              refine sv (.bool y67) hk rfl rfl rfl fun a hk => ?_
              refine sm _ rfl hk rfl rfl rfl fun a hk => ?_
              rcases cond_some H with ⟨c69, H⟩ | ⟨c69, H⟩
              · have hk := hk.lit 58 c69 rfl
                refine sf ⟨b2, 3, none⟩ rfl hk rfl rfl rfl fd50_3 rfl fun a hk => ?_
                refine sl rfl hk rfl rfl rfl ag3 (box_cell hs (k := 4) rfl rfl) fun a hk => ?_
                obtain ⟨y70, h71, H⟩ := bind_some H
                refine sc rfl en65 hk rfl rfl rfl (impl_within_t _ x0.Place 0 699 _ h71) ?_
                rintro _ w ⟨rfl, hG⟩ a hk
                have hs := hs.call0 hG
                refine sv (.bool y70) hk rfl rfl rfl fun a hk => ?_
                refine sm _ rfl hk rfl rfl rfl fun a hk => ?_
                rcases cond_some H with ⟨c72, H⟩ | ⟨c72, H⟩
                · have hk := hk.lit 63 c72 rfl
                  refine sf ⟨b2, 4, none⟩ rfl hk rfl rfl rfl fd50_4 rfl fun a hk => ?_
                  refine sl rfl hk rfl rfl rfl ag3 (box_cell hs (k := 4) rfl rfl) fun a hk => ?_
                  obtain ⟨y73, h74, H⟩ := bind_some H
                  refine sc rfl en65 hk rfl rfl rfl (impl_within_t _ x0.By 1 255 _ h74) ?_
                  rintro _ w ⟨rfl, hG⟩ a hk
                  have hs := hs.call0 hG
                  refine sv (.bool y73) hk rfl rfl rfl fun a hk => ?_
                  refine sa _ rfl hk rfl rfl rfl fun a hk => ?_
                  show wpList _ _ _ [] _ _
                  refine wpList_nil ?_
                  obtain rfl := Option.some.inj H
                  show R63 _ _
                  rw [hR63]
                  exact ⟨y73, rfl, (hk.c 2 rfl hk.k), (hs.pick [] rfl)⟩
                · have hk := hk.lit 63 c72 rfl
                  refine sk hk rfl rfl rfl fun a hk => ?_
                  refine sk hk rfl rfl rfl fun a hk => ?_
                  refine sk hk rfl rfl rfl fun a hk => ?_
                  refine sv (.bool false) hk rfl rfl rfl fun a hk => ?_
                  refine sa _ rfl hk rfl rfl rfl fun a hk => ?_
                  show wpList _ _ _ [] _ _
                  refine wpList_nil ?_
                  obtain rfl := Option.some.inj H
                  show R63 _ _
                  rw [hR63]
                  exact ⟨false, rfl, (hk.c 2 rfl hk.k), (hs.pick [] rfl)⟩
              · have hk := hk.lit 58 c69 rfl
                refine sk hk rfl rfl rfl fun a hk => ?_
                refine sk hk rfl rfl rfl fun a hk => ?_
                refine sk hk rfl rfl rfl fun a hk => ?_
                refine sv (.bool false) hk rfl rfl rfl fun a hk => ?_
                refine sm _ rfl hk rfl rfl rfl fun a hk => ?_
                refine sk hk rfl rfl rfl fun a hk => ?_
                refine sk hk rfl rfl rfl fun a hk => ?_
                refine sk hk rfl rfl rfl fun a hk => ?_
                refine sv (.bool false) hk rfl rfl rfl fun a hk => ?_
                refine sa _ rfl hk rfl rfl rfl fun a hk => ?_
                show wpList _ _ _ [] _ _
                refine wpList_nil ?_
                obtain rfl := Option.some.inj H
                show R63 _ _
                rw [hR63]
                exact ⟨false, rfl, (hk.c 2 rfl hk.k), (hs.pick [] rfl)⟩
            · have hk := hk.lit 53 c66 rfl
              refine sk hk rfl rfl rfl fun a hk => ?_
              refine sk hk rfl rfl rfl fun a hk => ?_
              refine sk hk rfl rfl rfl fun a hk => ?_
              refine sv (.bool false) hk rfl rfl rfl fun a hk => ?_
              refine sm _ rfl hk rfl rfl rfl fun a hk => ?_
              refine sk hk rfl rfl rfl fun a hk => ?_
              refine sk hk rfl rfl rfl fun a hk => ?_
              refine sk hk rfl rfl rfl fun a hk => ?_
              refine sv (.bool false) hk rfl rfl rfl fun a hk => ?_
              refine sm _ rfl hk rfl rfl rfl fun a hk => ?_
              refine sk hk rfl rfl rfl fun a hk => ?_
              refine sk hk rfl rfl rfl fun a hk => ?_
              refine sk hk rfl rfl rfl fun a hk => ?_
              refine sv (.bool false) hk rfl rfl rfl fun a hk => ?_
              refine sa _ rfl hk rfl rfl rfl fun a hk => ?_
              show wpList _ _ _ [] _ _
              refine wpList_nil ?_
              obtain rfl := Option.some.inj H
              show R63 _ _
              rw [hR63]
              exact ⟨false, rfl, (hk.c 2 rfl hk.k), (hs.pick [] rfl)⟩
          · intro a w hR0
            rw [hR63] at hR0
            obtain ⟨u59, rfl, hk, hs⟩ := hR0
            have H := HL62
            try dsimp only at H
            refine hK57 _ _ ?_
            refine wp_ret ?_
            obtain rfl := Option.some.inj H
            exact fin hk _ [(.bool u59)] rfl ⟨rfl, trivial⟩ ⟨rfl, (hs.pick [] rfl).dnil⟩
        · have hk := hk.lit 49 c56 rfl
          refine cnd_false hk rfl rfl ?_
          refine wp_skip ?_
          refine hK3 _ _ ?_
          apply wp_seq_k; intro K75 hK75
          obtain ⟨o78, h79, HL80⟩ := bind_some H
          clear H
          obtain ⟨R81, hR81⟩ : ∃ R : Act → World → Prop, R = fun a w => ∃ (u77 : Bool), u77 = o78 ∧ Kn [(2, (.bool u77))] 79 a ∧ Sat [] w0 w [(1, k0_0), (2, k0_1), (3, k0_2)] [] := ⟨_, rfl⟩
          refine wp_cutq R81 ?_ ?_
          · have H := h79
            apply wp_region_lit
            refine sf ⟨b2, 0, none⟩ rfl hk rfl rfl rfl fd50_0 rfl fun a hk => ?_
            refine sl rfl hk rfl rfl rfl ag3 (box_cell hs (k := 4) rfl rfl) fun a hk => ?_
            obtain ⟨y82, h83, H⟩ := bind_some H
            refine sc rfl en65 hk rfl rfl rfl (impl_within_t _ x0.Kind 1 10 _ h83) ?_
            rintro _ w ⟨rfl, hG⟩ a hk
            have hs := hs.call0 hG
            refine sm _ rfl hk rfl rfl rfl fun a hk => ?_
            rcases cond_some H with ⟨c84, H⟩ | ⟨c84, H⟩
            · have hk := hk.lit 71 c84 rfl
              refine sln [.int .i64 x0.Kind, .int .i64 x0.Phase, .int .i64 x0.At, .int .i64 x0.Place, .int .i64 x0.By, .slice A0_0 x0.Batch.length p0_0, .slice A0_1 x0.Draws.length p0_1, .slice A0_2 x0.Fates.length p0_2] rfl hk rfl rfl rfl ag50 sz50 (box_cells hs (k := 4) rfl) fun a hk => ?_
              obtain ⟨y85, h86, H⟩ := bind_some H
              refine sc rfl en63 hk rfl rfl rfl (impl_Act_isQuiet_t _ x0 A0_0 p0_0 _ v0_0 (hs.hasD (k := 1) rfl) A0_1 p0_1 _ v0_1 (hs.hasD (k := 2) rfl) A0_2 p0_2 _ v0_2 (hs.hasD (k := 3) rfl) _ h86) ?_
              rintro _ w ⟨rfl, hG⟩ a hk
              have hs := hs.call0 hG
              refine sv (.bool y85) hk rfl rfl rfl fun a hk => ?_
              refine sm _ rfl hk rfl rfl rfl fun a hk => ?_
              rcases cond_some H with ⟨c87, H⟩ | ⟨c87, H⟩
              · have hk := hk.lit 75 c87 rfl
                refine sln [.int .i64 x0.Kind, .int .i64 x0.Phase, .int .i64 x0.At, .int .i64 x0.Place, .int .i64 x0.By, .slice A0_0 x0.Batch.length p0_0, .slice A0_1 x0.Draws.length p0_1, .slice A0_2 x0.Fates.length p0_2] rfl hk rfl rfl rfl ag50 sz50 (box_cells hs (k := 4) rfl) fun a hk => ?_
                obtain ⟨y88, h89, H⟩ := bind_some H
                refine sc rfl en61 hk rfl rfl rfl (impl_Act_isNowhere_t _ x0 A0_0 p0_0 _ v0_0 (hs.hasD (k := 1) rfl) A0_1 p0_1 _ v0_1 (hs.hasD (k := 2) rfl) A0_2 p0_2 _ v0_2 (hs.hasD (k := 3) rfl) _ h89) ?_
                rintro _ w ⟨rfl, hG⟩ a hk
                have hs := hs.call0 hG
                refine sv (.bool y88) hk rfl rfl rfl fun a hk => ?_
                refine sa _ rfl hk rfl rfl rfl fun a hk => ?_
                show wpList _ _ _ [] _ _
                refine wpList_nil ?_
                obtain rfl := Option.some.inj H
                show R81 _ _
                rw [hR81]
                exact ⟨y88, rfl, (hk.c 2 rfl hk.k), (hs.pick [] rfl)⟩
              · have hk := hk.lit 75 c87 rfl
                refine sk hk rfl rfl rfl fun a hk => ?_
                refine sk hk rfl rfl rfl fun a hk => ?_
                refine sv (.bool false) hk rfl rfl rfl fun a hk => ?_
                refine sa _ rfl hk rfl rfl rfl fun a hk => ?_
                show wpList _ _ _ [] _ _
                refine wpList_nil ?_
                obtain rfl := Option.some.inj H
                show R81 _ _
                rw [hR81]
                exact ⟨false, rfl, (hk.c 2 rfl hk.k), (hs.pick [] rfl)⟩
            · have hk := hk.lit 71 c84 rfl
              refine sk hk rfl rfl rfl fun a hk => ?_
              refine sk hk rfl rfl rfl fun a hk => ?_
              refine sv (.bool false) hk rfl rfl rfl fun a hk => ?_
              refine sm _ rfl hk rfl rfl rfl fun a hk => ?_
              refine sk hk rfl rfl rfl fun a hk => ?_
              refine sk hk rfl rfl rfl fun a hk => ?_
              refine sv (.bool false) hk rfl rfl rfl fun a hk => ?_
              refine sa _ rfl hk rfl rfl rfl fun a hk => ?_
              show wpList _ _ _ [] _ _
              refine wpList_nil ?_
              obtain rfl := Option.some.inj H
              show R81 _ _
              rw [hR81]
              exact ⟨false, rfl, (hk.c 2 rfl hk.k), (hs.pick [] rfl)⟩
          · intro a w hR0
            rw [hR81] at hR0
            obtain ⟨u77, rfl, hk, hs⟩ := hR0
            have H := HL80
            try dsimp only at H
            refine hK75 _ _ ?_
            refine wp_ret ?_
            obtain rfl := Option.some.inj H
            exact fin hk _ [(.bool u77)] rfl ⟨rfl, trivial⟩ ⟨rfl, (hs.pick [] rfl).dnil⟩

noncomputable def laws_eqOp.f (x0 : S_Op) (x1 : S_Op) : Option (Bool) :=
  (bif (x0.Kind != x1.Kind) then (some false) else (bif (x0.Key != x1.Key) then (some false) else (bif (x0.Value != x1.Value) then (some false) else (some true))))
set_option maxRecDepth 100000 in
set_option maxHeartbeats 0 in
theorem laws_eqOp_t (w0 : World) (x0 : S_Op) (x1 : S_Op) (r : Bool) (H : laws_eqOp.f x0 x1 = some r) :
    Calls Try.prog 135 #[.agg #[.int .i64 x0.Kind, .int .i64 x0.Key, .int .i64 x0.Value], .agg #[.int .i64 x1.Kind, .int .i64 x1.Key, .int .i64 x1.Value]] w0 (Ret (fun v w => v = .bool r ∧ Sat [] w0 w [] [])) := by
  have hs : Sat [] w0 w0 [] [] := Sat.init w0 [] [] (by simp) (by simp) List.nodup_nil (by simp [blks])
  unfold laws_eqOp.f at H
  refine enter Try.func135 rfl Try.ntmps135 rfl fun a hk => ?_
  apply wp_seq_k; intro K1 hK1
  apply wp_region_lit
  refine sbx 1 hs rfl hk rfl rfl rfl rfl fun b2 w a hk hs => ?_
  refine sbx 2 hs rfl hk rfl rfl rfl rfl fun b3 w a hk hs => ?_
  refine sa _ rfl hk rfl rfl rfl fun a hk => ?_
  show wpList _ _ _ [] _ _
  refine wpList_nil ?_
  refine hK1 _ _ ?_
  apply wp_seq_k; intro K4 hK4
  apply wp_seq_k; intro K5 hK5
  apply wp_region_lit
  refine sf ⟨b2, 0, none⟩ rfl hk rfl rfl rfl fd120_0 rfl fun a hk => ?_
  refine sl rfl hk rfl rfl rfl ag3 (box_cell hs (k := 1) rfl rfl) fun a hk => ?_
  refine sf ⟨b3, 0, none⟩ rfl hk rfl rfl rfl fd120_0 rfl fun a hk => ?_
  refine sl rfl hk rfl rfl rfl ag3 (box_cell hs (k := 2) rfl rfl) fun a hk => ?_
  refine sv (.bool (x0.Kind != x1.Kind)) hk rfl rfl rfl fun a hk => ?_
  show wpList _ _ _ [] _ _
  refine wpList_nil ?_
  refine hK5 _ _ ?_
  rcases cond_some H with ⟨c6, H⟩ | ⟨c6, H⟩
  · have hk := hk.lit 9 c6 rfl
    refine cnd_true hk rfl rfl ?_
    apply wp_seq_k; intro K7 hK7
    apply wp_region_lit
    refine sa _ rfl hk rfl rfl rfl fun a hk => ?_
    show wpList _ _ _ [] _ _
    refine wpList_nil ?_
    refine hK7 _ _ ?_
    refine wp_ret ?_
    obtain rfl := Option.some.inj H
    exact fin hk _ [(.bool false)] rfl ⟨rfl, trivial⟩ ⟨rfl, (hs.pick [] rfl).dnil⟩
  · have hk := hk.lit 9 c6 rfl
    refine cnd_false hk rfl rfl ?_
    refine wp_skip ?_
    refine hK4 _ _ ?_
    apply wp_seq_k; intro K8 hK8
    apply wp_seq_k; intro K9 hK9
    apply wp_region_lit
    refine sf ⟨b2, 1, none⟩ rfl hk rfl rfl rfl fd120_1 rfl fun a hk => ?_
    refine sl rfl hk rfl rfl rfl ag3 (box_cell hs (k := 1) rfl rfl) fun a hk => ?_
    refine sf ⟨b3, 1, none⟩ rfl hk rfl rfl rfl fd120_1 rfl fun a hk => ?_
    refine sl rfl hk rfl rfl rfl ag3 (box_cell hs (k := 2) rfl rfl) fun a hk => ?_
    refine sv (.bool (x0.Key != x1.Key)) hk rfl rfl rfl fun a hk => ?_
    show wpList _ _ _ [] _ _
    refine wpList_nil ?_
    refine hK9 _ _ ?_
    rcases cond_some H with ⟨c10, H⟩ | ⟨c10, H⟩
    · have hk := hk.lit 14 c10 rfl
      refine cnd_true hk rfl rfl ?_
      apply wp_seq_k; intro K11 hK11
      apply wp_region_lit
      refine sa _ rfl hk rfl rfl rfl fun a hk => ?_
      show wpList _ _ _ [] _ _
      refine wpList_nil ?_
      refine hK11 _ _ ?_
      refine wp_ret ?_
      obtain rfl := Option.some.inj H
      exact fin hk _ [(.bool false)] rfl ⟨rfl, trivial⟩ ⟨rfl, (hs.pick [] rfl).dnil⟩
    · have hk := hk.lit 14 c10 rfl
      refine cnd_false hk rfl rfl ?_
      refine wp_skip ?_
      refine hK8 _ _ ?_
      apply wp_seq_k; intro K12 hK12
      apply wp_seq_k; intro K13 hK13
      apply wp_region_lit
      refine sf ⟨b2, 2, none⟩ rfl hk rfl rfl rfl fd120_2 rfl fun a hk => ?_
      refine sl rfl hk rfl rfl rfl ag3 (box_cell hs (k := 1) rfl rfl) fun a hk => ?_
      refine sf ⟨b3, 2, none⟩ rfl hk rfl rfl rfl fd120_2 rfl fun a hk => ?_
      refine sl rfl hk rfl rfl rfl ag3 (box_cell hs (k := 2) rfl rfl) fun a hk => ?_
      refine sv (.bool (x0.Value != x1.Value)) hk rfl rfl rfl fun a hk => ?_
      show wpList _ _ _ [] _ _
      refine wpList_nil ?_
      refine hK13 _ _ ?_
      rcases cond_some H with ⟨c14, H⟩ | ⟨c14, H⟩
      · have hk := hk.lit 19 c14 rfl
        refine cnd_true hk rfl rfl ?_
        apply wp_seq_k; intro K15 hK15
        apply wp_region_lit
        refine sa _ rfl hk rfl rfl rfl fun a hk => ?_
        show wpList _ _ _ [] _ _
        refine wpList_nil ?_
        refine hK15 _ _ ?_
        refine wp_ret ?_
        obtain rfl := Option.some.inj H
        exact fin hk _ [(.bool false)] rfl ⟨rfl, trivial⟩ ⟨rfl, (hs.pick [] rfl).dnil⟩
      · have hk := hk.lit 19 c14 rfl
        refine cnd_false hk rfl rfl ?_
        refine wp_skip ?_
        refine hK12 _ _ ?_
        apply wp_seq_k; intro K16 hK16
        apply wp_region_lit
        refine sa _ rfl hk rfl rfl rfl fun a hk => ?_
        show wpList _ _ _ [] _ _
        refine wpList_nil ?_
        refine hK16 _ _ ?_
        refine wp_ret ?_
        obtain rfl := Option.some.inj H
        exact fin hk _ [(.bool true)] rfl ⟨rfl, trivial⟩ ⟨rfl, (hs.pick [] rfl).dnil⟩

noncomputable def laws_eqOpS.s0 (l0 : List S_Op) (l1 : List S_Op) (u10 : Int) : Option ((Int) ⊕ Ex (Unit) (Bool)) :=
  (bif (decide (u10 < (l0.length : Int))) then (if 0 ≤ u10 ∧ u10 < (l0.length : Int) then (if 0 ≤ u10 ∧ u10 < (l1.length : Int) then ((laws_eqOp.f (l0.getD u10.toNat z_Op) (l1.getD u10.toNat z_Op)).bind fun y32 => (bif (!y32) then (some (.inr (.ret false))) else (some (.inl (w64 (u10 + 1)))))) else none) else none) else (some (.inr (.out ()))))
noncomputable def laws_eqOpS.f (l0 : List S_Op) (l1 : List S_Op) : Option (Bool) :=
  (bif ((l0.length : Int) != (l1.length : Int)) then (some false) else ((loopO (fun s => laws_eqOpS.s0 l0 l1 s) 0).bind fun o => match o with | .out _ => (some true) | .ret r => (some r)))
set_option maxRecDepth 100000 in
set_option maxHeartbeats 0 in
theorem laws_eqOpS_t (w0 : World) (A0_ : Option Addr) (p0_ : Nat) (l0 : List S_Op) (k0_ : Chunk) (v0_ : View L_Op A0_ p0_ l0 k0_) (w0_ : Has w0 k0_) (A1_ : Option Addr) (p1_ : Nat) (l1 : List S_Op) (k1_ : Chunk) (v1_ : View L_Op A1_ p1_ l1 k1_) (w1_ : Has w0 k1_) (r : Bool) (H : laws_eqOpS.f l0 l1 = some r) :
    Calls Try.prog 112 #[.slice A0_ l0.length p0_, .slice A1_ l1.length p1_] w0 (Ret (fun v w => v = .bool r ∧ Sat [] w0 w [] [])) := by
  have hs : Sat [] w0 w0 [(1, k0_), (2, k1_)] [] := Sat.init w0 [(1, k0_), (2, k1_)] [] (by simp only [List.mem_cons, List.not_mem_nil, or_false]; rintro x (rfl | rfl) <;> assumption) (by simp) List.nodup_nil (by simp [blks])
  unfold laws_eqOpS.f at H
  refine enter Try.func112 rfl Try.ntmps112 rfl fun a hk => ?_
  apply wp_seq_k; intro K1 hK1
  apply wp_region_lit
  refine sa _ rfl hk rfl rfl rfl fun a hk => ?_
  show wpList _ _ _ [] _ _
  refine wpList_nil ?_
  refine hK1 _ _ ?_
  apply wp_seq_k; intro K2 hK2
  apply wp_seq_k; intro K3 hK3
  apply wp_region_lit
  refine sm _ rfl hk rfl rfl rfl fun a hk => ?_
  refine sle rfl hk rfl rfl rfl un90 fun a hk => ?_
  refine sm _ rfl hk rfl rfl rfl fun a hk => ?_
  refine sle rfl hk rfl rfl rfl un90 fun a hk => ?_
  refine sv (.bool ((l0.length : Int) != (l1.length : Int))) hk rfl rfl rfl fun a hk => ?_
  show wpList _ _ _ [] _ _
  refine wpList_nil ?_
  refine hK3 _ _ ?_
  rcases cond_some H with ⟨c4, H⟩ | ⟨c4, H⟩
  · have hk := hk.lit 10 c4 rfl
    refine cnd_true hk rfl rfl ?_
    apply wp_seq_k; intro K5 hK5
    apply wp_region_lit
    refine sa _ rfl hk rfl rfl rfl fun a hk => ?_
    show wpList _ _ _ [] _ _
    refine wpList_nil ?_
    refine hK5 _ _ ?_
    refine wp_ret ?_
    obtain rfl := Option.some.inj H
    exact fin hk _ [(.bool false)] rfl ⟨rfl, trivial⟩ ⟨rfl, (hs.pick [] rfl).dnil⟩
  · have hk := hk.lit 10 c4 rfl
    refine cnd_false hk rfl rfl ?_
    refine wp_skip ?_
    refine hK2 _ _ ?_
    apply wp_seq_k; intro K6 hK6
    apply wp_seq_k; intro K7 hK7
    apply wp_region_lit
    refine sa _ rfl hk rfl rfl rfl fun a hk => ?_
    show wpList _ _ _ [] _ _
    refine wpList_nil ?_
    refine hK7 _ _ ?_
    obtain ⟨o11, h12, HL13⟩ := bind_some H
    clear H
    obtain ⟨R14, hR14⟩ : ∃ R : Act → World → Prop, R = fun a w => o11 = .out () ∧ Kn [] 27 a ∧ Sat [] w0 w [(1, k0_), (2, k1_)] [] := ⟨_, rfl⟩
    refine wp_cutq R14 ?_ ?_
    · refine wp_block ?_
      obtain ⟨fu16, h12⟩ := loopO_some h12
      obtain ⟨I15, hI15⟩ : ∃ I : Nat → Act → World → Prop, I = fun fu a w => ∃ (u10 : Int), loopN (fun s => laws_eqOpS.s0 l0 l1 s) fu u10 = some o11 ∧ Kn [(0, (.slice A0_ l0.length p0_)), (1, (.slice A1_ l1.length p1_)), (5, (.int .i64 u10))] 27 a ∧ Sat [] w0 w [(1, k0_), (2, k1_)] [] := ⟨_, rfl⟩
      refine wp_loop_ghost I15 fu16 ?_ ?_
      · rw [hI15]
        exact ⟨0, h12, (hk.c 0 rfl (hk.c 1 rfl (hk.c 5 rfl hk.k))), (hs.pick [] rfl)⟩
      · clear h12 hk hs
        intro fu16 a w hI0
        rw [hI15] at hI0
        obtain ⟨u10, hi, hk, hs⟩ := hI0
        obtain ⟨x17, H, h18⟩ := loop_round hi
        try dsimp only at H
        unfold laws_eqOpS.s0 at H
        apply wp_seq_k; intro K19 hK19
        apply wp_seq_k; intro K20 hK20
        apply wp_region_lit
        refine sm _ rfl hk rfl rfl rfl fun a hk => ?_
        refine sm _ rfl hk rfl rfl rfl fun a hk => ?_
        refine sle rfl hk rfl rfl rfl un90 fun a hk => ?_
        refine sv (.bool (decide (u10 < (l0.length : Int)))) hk rfl rfl rfl fun a hk => ?_
        show wpList _ _ _ [] _ _
        refine wpList_nil ?_
        refine hK20 _ _ ?_
        rcases cond_some H with ⟨c21, H⟩ | ⟨c21, H⟩
        · have hk := hk.lit 14 c21 rfl
          refine cnd_true hk rfl rfl ?_
          refine wp_skip ?_
          refine hK19 _ _ ?_
          apply wp_seq_k; intro K22 hK22
          refine wp_block ?_
          apply wp_seq_k; intro K23 hK23
          refine wp_region_mix [(0, true), (1, true), (2, true), (3, true), (4, true), (5, true), (6, true), (7, true), (8, true), (9, true)] mo (by kernel_rfl) hs fun _ => ?_
          have hs := hs.drew
          refine qst (.slice A0_ l0.length p0_) hk rfl rfl rfl rfl (fun w hs => sm _ rfl hk rfl rfl rfl fun a hk => qe hk) fun a hk => ?_
          refine qst (.int .i64 u10) hk rfl rfl rfl rfl (fun w hs => sm _ rfl hk rfl rfl rfl fun a hk => qe hk) fun a hk => ?_
          rcases ite_some H with ⟨c24, H⟩ | ⟨_, H⟩
          rotate_left
          · cases H
          obtain ⟨b25, q26, hAc24⟩ := (v0_).some_ u10 c24.1 c24.2
          refine qst (.pointer (some (padd A0_ (u10.toNat * 3)))) hk rfl rfl rfl rfl (fun w hs => si rfl hk rfl rfl rfl rfl un90 sz120 c24.1 c24.2 hAc24 fun a hk => qe hk) fun a hk => ?_
          obtain ⟨_, rfl, e27⟩ := (v0_).at_ z_Op u10 c24.1 c24.2
          refine qst (.agg #[.int .i64 ((l0.getD u10.toNat z_Op).Kind), .int .i64 ((l0.getD u10.toNat z_Op).Key), .int .i64 ((l0.getD u10.toNat z_Op).Value)]) hk rfl rfl rfl rfl (fun w hs => sln [.int .i64 ((l0.getD u10.toNat z_Op).Kind), .int .i64 ((l0.getD u10.toNat z_Op).Key), .int .i64 ((l0.getD u10.toNat z_Op).Value)] rfl hk rfl rfl rfl ag120 sz120 (cells_at e27 (hs.hasD (k := 1) rfl)) fun a hk => qe hk) fun a hk => ?_
          refine qst (.slice A1_ l1.length p1_) hk rfl rfl rfl rfl (fun w hs => sm _ rfl hk rfl rfl rfl fun a hk => qe hk) fun a hk => ?_
          refine qst (.int .i64 u10) hk rfl rfl rfl rfl (fun w hs => sm _ rfl hk rfl rfl rfl fun a hk => qe hk) fun a hk => ?_
          rcases ite_some H with ⟨c28, H⟩ | ⟨_, H⟩
          rotate_left
          · cases H
          obtain ⟨b29, q30, hAc28⟩ := (v1_).some_ u10 c28.1 c28.2
          refine qst (.pointer (some (padd A1_ (u10.toNat * 3)))) hk rfl rfl rfl rfl (fun w hs => si rfl hk rfl rfl rfl rfl un90 sz120 c28.1 c28.2 hAc28 fun a hk => qe hk) fun a hk => ?_
          obtain ⟨_, rfl, e31⟩ := (v1_).at_ z_Op u10 c28.1 c28.2
          refine qst (.agg #[.int .i64 ((l1.getD u10.toNat z_Op).Kind), .int .i64 ((l1.getD u10.toNat z_Op).Key), .int .i64 ((l1.getD u10.toNat z_Op).Value)]) hk rfl rfl rfl rfl (fun w hs => sln [.int .i64 ((l1.getD u10.toNat z_Op).Kind), .int .i64 ((l1.getD u10.toNat z_Op).Key), .int .i64 ((l1.getD u10.toNat z_Op).Value)] rfl hk rfl rfl rfl ag120 sz120 (cells_at e31 (hs.hasD (k := 2) rfl)) fun a hk => qe hk) fun a hk => ?_
          obtain ⟨y32, h33, H⟩ := bind_some H
          refine qst (.bool y32) hk rfl rfl rfl rfl (fun w hs => sc rfl en135 hk rfl rfl rfl (laws_eqOp_t _ (l0.getD u10.toNat z_Op) (l1.getD u10.toNat z_Op) _ h33) fun _ w hR a hk => qc hR hk) fun a hk => ?_
          refine qst (.bool (!y32)) hk rfl rfl rfl rfl (fun w hs => sv (.bool (!y32)) hk rfl rfl rfl fun a hk => qe hk) fun a hk => ?_
          refine wml_nil fun w hF _ => ?_
          have hs := hs.f hF
          refine hK23 _ _ ?_
          rcases cond_some H with ⟨c34, H⟩ | ⟨c34, H⟩
          · have hk := hk.lit 26 c34 rfl
            refine cnd_true hk rfl rfl ?_
            apply wp_seq_k; intro K35 hK35
            apply wp_region_lit
            refine sa _ rfl hk rfl rfl rfl fun a hk => ?_
            show wpList _ _ _ [] _ _
            refine wpList_nil ?_
            refine hK35 _ _ ?_
            refine wp_ret ?_
            obtain rfl := Option.some.inj H
            have ho11 := h18
            try dsimp only at ho11
            subst ho11
            have H := HL13
            try dsimp only at H
            obtain rfl := Option.some.inj H
            exact fin hk _ [(.bool false)] rfl ⟨rfl, trivial⟩ ⟨rfl, (hs.pick [] rfl).dnil⟩
          · have hk := hk.lit 26 c34 rfl
            refine cnd_false hk rfl rfl ?_
            refine wp_skip ?_
            refine hK22 _ _ ?_
            apply wp_region_lit
            refine sm _ rfl hk rfl rfl rfl fun a hk => ?_
            refine sv (.int .i64 (w64 (u10 + 1))) hk rfl rfl rfl fun a hk => ?_
            refine sa _ rfl hk rfl rfl rfl fun a hk => ?_
            show wpList _ _ _ [] _ _
            refine wpList_nil ?_
            obtain rfl := Option.some.inj H
            obtain ⟨m36, hmm36, h18⟩ := h18
            show ∃ n', n' < _ ∧ I15 n' _ _
            refine ⟨m36, hmm36, ?_⟩
            rw [hI15]
            exact ⟨(w64 (u10 + 1)), h18, (hk.c 0 rfl (hk.c 1 rfl (hk.c 5 rfl hk.k))), (hs.pick [] rfl)⟩
        · have hk := hk.lit 14 c21 rfl
          refine cnd_false hk rfl rfl ?_
          refine wp_exit ?_
          obtain rfl := Option.some.inj H
          show R14 _ _
          rw [hR14]
          exact ⟨h18.symm, hk.k, (hs.pick [] rfl)⟩
    · intro a w hR0
      rw [hR14] at hR0
      obtain ⟨rfl, hk, hs⟩ := hR0
      have H := HL13
      try dsimp only at H
      refine hK6 _ _ ?_
      apply wp_seq_k; intro K37 hK37
      apply wp_region_lit
      refine sa _ rfl hk rfl rfl rfl fun a hk => ?_
      show wpList _ _ _ [] _ _
      refine wpList_nil ?_
      refine hK37 _ _ ?_
      refine wp_ret ?_
      obtain rfl := Option.some.inj H
      exact fin hk _ [(.bool true)] rfl ⟨rfl, trivial⟩ ⟨rfl, (hs.pick [] rfl).dnil⟩

noncomputable def laws_eqTxn.f (x0 : S_Txn) (x1 : S_Txn) : Option (Bool) :=
  ((laws_eqOpS.f x0.Ops x1.Ops).bind fun y6 => (bif (!y6) then (some false) else (some true)))
set_option maxRecDepth 100000 in
set_option maxHeartbeats 0 in
theorem laws_eqTxn_t (w0 : World) (x0 : S_Txn) (A0_0 : Option Addr) (p0_0 : Nat) (k0_0 : Chunk) (v0_0 : View L_Op A0_0 p0_0 x0.Ops k0_0) (w0_0 : Has w0 k0_0) (x1 : S_Txn) (A1_0 : Option Addr) (p1_0 : Nat) (k1_0 : Chunk) (v1_0 : View L_Op A1_0 p1_0 x1.Ops k1_0) (w1_0 : Has w0 k1_0) (r : Bool) (H : laws_eqTxn.f x0 x1 = some r) :
    Calls Try.prog 72 #[.agg #[.slice A0_0 x0.Ops.length p0_0], .agg #[.slice A1_0 x1.Ops.length p1_0]] w0 (Ret (fun v w => v = .bool r ∧ Sat [] w0 w [] [])) := by
  have hs : Sat [] w0 w0 [(1, k0_0), (2, k1_0)] [] := Sat.init w0 [(1, k0_0), (2, k1_0)] [] (by simp only [List.mem_cons, List.not_mem_nil, or_false]; rintro x (rfl | rfl) <;> assumption) (by simp) List.nodup_nil (by simp [blks])
  unfold laws_eqTxn.f at H
  refine enter Try.func72 rfl Try.ntmps72 rfl fun a hk => ?_
  apply wp_seq_k; intro K1 hK1
  apply wp_region_lit
  refine sbx 3 hs rfl hk rfl rfl rfl rfl fun b2 w a hk hs => ?_
  refine sbx 4 hs rfl hk rfl rfl rfl rfl fun b3 w a hk hs => ?_
  refine sa _ rfl hk rfl rfl rfl fun a hk => ?_
  show wpList _ _ _ [] _ _
  refine wpList_nil ?_
  refine hK1 _ _ ?_
  apply wp_seq_k; intro K4 hK4
  apply wp_seq_k; intro K5 hK5
  apply wp_region_lit
  refine sf ⟨b2, 0, none⟩ rfl hk rfl rfl rfl fd92_0 rfl fun a hk => ?_
  refine sl rfl hk rfl rfl rfl ag90 (box_cell hs (k := 3) rfl rfl) fun a hk => ?_
  refine sf ⟨b3, 0, none⟩ rfl hk rfl rfl rfl fd92_0 rfl fun a hk => ?_
  refine sl rfl hk rfl rfl rfl ag90 (box_cell hs (k := 4) rfl rfl) fun a hk => ?_
  obtain ⟨y6, h7, H⟩ := bind_some H
  refine sc rfl en112 hk rfl rfl rfl (laws_eqOpS_t _ A0_0 p0_0 x0.Ops _ v0_0 (hs.hasD (k := 1) rfl) A1_0 p1_0 x1.Ops _ v1_0 (hs.hasD (k := 2) rfl) _ h7) ?_
  rintro _ w ⟨rfl, hG⟩ a hk
  have hs := hs.call0 hG
  refine sv (.bool (!y6)) hk rfl rfl rfl fun a hk => ?_
  show wpList _ _ _ [] _ _
  refine wpList_nil ?_
  refine hK5 _ _ ?_
  rcases cond_some H with ⟨c8, H⟩ | ⟨c8, H⟩
  · have hk := hk.lit 10 c8 rfl
    refine cnd_true hk rfl rfl ?_
    apply wp_seq_k; intro K9 hK9
    apply wp_region_lit
    refine sa _ rfl hk rfl rfl rfl fun a hk => ?_
    show wpList _ _ _ [] _ _
    refine wpList_nil ?_
    refine hK9 _ _ ?_
    refine wp_ret ?_
    obtain rfl := Option.some.inj H
    exact fin hk _ [(.bool false)] rfl ⟨rfl, trivial⟩ ⟨rfl, (hs.pick [] rfl).dnil⟩
  · have hk := hk.lit 10 c8 rfl
    refine cnd_false hk rfl rfl ?_
    refine wp_skip ?_
    refine hK4 _ _ ?_
    apply wp_seq_k; intro K10 hK10
    apply wp_region_lit
    refine sa _ rfl hk rfl rfl rfl fun a hk => ?_
    show wpList _ _ _ [] _ _
    refine wpList_nil ?_
    refine hK10 _ _ ?_
    refine wp_ret ?_
    obtain rfl := Option.some.inj H
    exact fin hk _ [(.bool true)] rfl ⟨rfl, trivial⟩ ⟨rfl, (hs.pick [] rfl).dnil⟩

noncomputable def laws_eqTxnS.s0 (l0 : List S_Txn) (l1 : List S_Txn) (u10 : Int) : Option ((Int) ⊕ Ex (Unit) (Bool)) :=
  (bif (decide (u10 < (l0.length : Int))) then (if 0 ≤ u10 ∧ u10 < (l0.length : Int) then (if 0 ≤ u10 ∧ u10 < (l1.length : Int) then ((laws_eqTxn.f (l0.getD u10.toNat z_Txn) (l1.getD u10.toNat z_Txn)).bind fun y38 => (bif (!y38) then (some (.inr (.ret false))) else (some (.inl (w64 (u10 + 1)))))) else none) else none) else (some (.inr (.out ()))))
noncomputable def laws_eqTxnS.f (l0 : List S_Txn) (l1 : List S_Txn) : Option (Bool) :=
  (bif ((l0.length : Int) != (l1.length : Int)) then (some false) else ((loopO (fun s => laws_eqTxnS.s0 l0 l1 s) 0).bind fun o => match o with | .out _ => (some true) | .ret r => (some r)))
set_option maxRecDepth 100000 in
set_option maxHeartbeats 0 in
theorem laws_eqTxnS_t (w0 : World) (A0_ : Option Addr) (p0_ : Nat) (l0 : List S_Txn) (k0_ : Chunk) (v0_ : View L_impl_Txn A0_ p0_ l0 k0_) (w0_ : Has w0 k0_) (A1_ : Option Addr) (p1_ : Nat) (l1 : List S_Txn) (k1_ : Chunk) (v1_ : View L_impl_Txn A1_ p1_ l1 k1_) (w1_ : Has w0 k1_) (r : Bool) (H : laws_eqTxnS.f l0 l1 = some r) :
    Calls Try.prog 27 #[.slice A0_ l0.length p0_, .slice A1_ l1.length p1_] w0 (Ret (fun v w => v = .bool r ∧ Sat [] w0 w [] [])) := by
  have hs : Sat [] w0 w0 [(1, k0_), (2, k1_)] [] := Sat.init w0 [(1, k0_), (2, k1_)] [] (by simp only [List.mem_cons, List.not_mem_nil, or_false]; rintro x (rfl | rfl) <;> assumption) (by simp) List.nodup_nil (by simp [blks])
  unfold laws_eqTxnS.f at H
  refine enter Try.func27 rfl Try.ntmps27 rfl fun a hk => ?_
  apply wp_seq_k; intro K1 hK1
  apply wp_region_lit
  refine sa _ rfl hk rfl rfl rfl fun a hk => ?_
  show wpList _ _ _ [] _ _
  refine wpList_nil ?_
  refine hK1 _ _ ?_
  apply wp_seq_k; intro K2 hK2
  apply wp_seq_k; intro K3 hK3
  apply wp_region_lit
  refine sm _ rfl hk rfl rfl rfl fun a hk => ?_
  refine sle rfl hk rfl rfl rfl un48 fun a hk => ?_
  refine sm _ rfl hk rfl rfl rfl fun a hk => ?_
  refine sle rfl hk rfl rfl rfl un48 fun a hk => ?_
  refine sv (.bool ((l0.length : Int) != (l1.length : Int))) hk rfl rfl rfl fun a hk => ?_
  show wpList _ _ _ [] _ _
  refine wpList_nil ?_
  refine hK3 _ _ ?_
  rcases cond_some H with ⟨c4, H⟩ | ⟨c4, H⟩
  · have hk := hk.lit 10 c4 rfl
    refine cnd_true hk rfl rfl ?_
    apply wp_seq_k; intro K5 hK5
    apply wp_region_lit
    refine sa _ rfl hk rfl rfl rfl fun a hk => ?_
    show wpList _ _ _ [] _ _
    refine wpList_nil ?_
    refine hK5 _ _ ?_
    refine wp_ret ?_
    obtain rfl := Option.some.inj H
    exact fin hk _ [(.bool false)] rfl ⟨rfl, trivial⟩ ⟨rfl, (hs.pick [] rfl).dnil⟩
  · have hk := hk.lit 10 c4 rfl
    refine cnd_false hk rfl rfl ?_
    refine wp_skip ?_
    refine hK2 _ _ ?_
    apply wp_seq_k; intro K6 hK6
    apply wp_seq_k; intro K7 hK7
    apply wp_region_lit
    refine sa _ rfl hk rfl rfl rfl fun a hk => ?_
    show wpList _ _ _ [] _ _
    refine wpList_nil ?_
    refine hK7 _ _ ?_
    obtain ⟨o11, h12, HL13⟩ := bind_some H
    clear H
    obtain ⟨R14, hR14⟩ : ∃ R : Act → World → Prop, R = fun a w => o11 = .out () ∧ Kn [] 27 a ∧ Sat [] w0 w [(1, k0_), (2, k1_)] [] := ⟨_, rfl⟩
    refine wp_cutq R14 ?_ ?_
    · refine wp_block ?_
      obtain ⟨fu16, h12⟩ := loopO_some h12
      obtain ⟨I15, hI15⟩ : ∃ I : Nat → Act → World → Prop, I = fun fu a w => ∃ (u10 : Int), loopN (fun s => laws_eqTxnS.s0 l0 l1 s) fu u10 = some o11 ∧ Kn [(0, (.slice A0_ l0.length p0_)), (1, (.slice A1_ l1.length p1_)), (5, (.int .i64 u10))] 27 a ∧ Sat [] w0 w [(1, k0_), (2, k1_)] [] := ⟨_, rfl⟩
      refine wp_loop_ghost I15 fu16 ?_ ?_
      · rw [hI15]
        exact ⟨0, h12, (hk.c 0 rfl (hk.c 1 rfl (hk.c 5 rfl hk.k))), (hs.pick [] rfl)⟩
      · clear h12 hk hs
        intro fu16 a w hI0
        rw [hI15] at hI0
        obtain ⟨u10, hi, hk, hs⟩ := hI0
        obtain ⟨x17, H, h18⟩ := loop_round hi
        try dsimp only at H
        unfold laws_eqTxnS.s0 at H
        apply wp_seq_k; intro K19 hK19
        apply wp_seq_k; intro K20 hK20
        apply wp_region_lit
        refine sm _ rfl hk rfl rfl rfl fun a hk => ?_
        refine sm _ rfl hk rfl rfl rfl fun a hk => ?_
        refine sle rfl hk rfl rfl rfl un48 fun a hk => ?_
        refine sv (.bool (decide (u10 < (l0.length : Int)))) hk rfl rfl rfl fun a hk => ?_
        show wpList _ _ _ [] _ _
        refine wpList_nil ?_
        refine hK20 _ _ ?_
        rcases cond_some H with ⟨c21, H⟩ | ⟨c21, H⟩
        · have hk := hk.lit 14 c21 rfl
          refine cnd_true hk rfl rfl ?_
          refine wp_skip ?_
          refine hK19 _ _ ?_
          apply wp_seq_k; intro K22 hK22
          refine wp_block ?_
          apply wp_seq_k; intro K23 hK23
          refine wp_region_mix [(0, true), (1, true), (2, true), (3, true), (4, true), (5, true), (6, true), (7, true), (8, true), (9, true)] mo (by kernel_rfl) hs fun _ => ?_
          have hs := hs.drew
          refine qst (.slice A0_ l0.length p0_) hk rfl rfl rfl rfl (fun w hs => sm _ rfl hk rfl rfl rfl fun a hk => qe hk) fun a hk => ?_
          refine qst (.int .i64 u10) hk rfl rfl rfl rfl (fun w hs => sm _ rfl hk rfl rfl rfl fun a hk => qe hk) fun a hk => ?_
          rcases ite_some H with ⟨c24, H⟩ | ⟨_, H⟩
          rotate_left
          · cases H
          obtain ⟨b25, q26, hAc24⟩ := (v0_).some_ u10 c24.1 c24.2
          refine qst (.pointer (some (padd A0_ (u10.toNat * 1)))) hk rfl rfl rfl rfl (fun w hs => si rfl hk rfl rfl rfl rfl un48 sz92 c24.1 c24.2 hAc24 fun a hk => qe hk) fun a hk => ?_
          obtain ⟨_, ⟨_, rfl, A28, p29, rfl, v30⟩, e27⟩ := (v0_).at_ z_Txn u10 c24.1 c24.2
          refine qst (.agg #[.slice A28 ((l0.getD u10.toNat z_Txn).Ops).length p29]) hk rfl rfl rfl rfl (fun w hs => sln [.slice A28 ((l0.getD u10.toNat z_Txn).Ops).length p29] rfl hk rfl rfl rfl ag92 sz92 (cells_at e27 (hs.hasD (k := 1) rfl)) fun a hk => qe hk) fun a hk => ?_
          refine qst (.slice A1_ l1.length p1_) hk rfl rfl rfl rfl (fun w hs => sm _ rfl hk rfl rfl rfl fun a hk => qe hk) fun a hk => ?_
          refine qst (.int .i64 u10) hk rfl rfl rfl rfl (fun w hs => sm _ rfl hk rfl rfl rfl fun a hk => qe hk) fun a hk => ?_
          rcases ite_some H with ⟨c31, H⟩ | ⟨_, H⟩
          rotate_left
          · cases H
          obtain ⟨b32, q33, hAc31⟩ := (v1_).some_ u10 c31.1 c31.2
          refine qst (.pointer (some (padd A1_ (u10.toNat * 1)))) hk rfl rfl rfl rfl (fun w hs => si rfl hk rfl rfl rfl rfl un48 sz92 c31.1 c31.2 hAc31 fun a hk => qe hk) fun a hk => ?_
          obtain ⟨_, ⟨_, rfl, A35, p36, rfl, v37⟩, e34⟩ := (v1_).at_ z_Txn u10 c31.1 c31.2
          refine qst (.agg #[.slice A35 ((l1.getD u10.toNat z_Txn).Ops).length p36]) hk rfl rfl rfl rfl (fun w hs => sln [.slice A35 ((l1.getD u10.toNat z_Txn).Ops).length p36] rfl hk rfl rfl rfl ag92 sz92 (cells_at e34 (hs.hasD (k := 2) rfl)) fun a hk => qe hk) fun a hk => ?_
          obtain ⟨y38, h39, H⟩ := bind_some H
          refine qst (.bool y38) hk rfl rfl rfl rfl (fun w hs => sc rfl en72 hk rfl rfl rfl (laws_eqTxn_t _ (l0.getD u10.toNat z_Txn) A28 p29 _ v30 (hs.hasD (k := 1) rfl) (l1.getD u10.toNat z_Txn) A35 p36 _ v37 (hs.hasD (k := 2) rfl) _ h39) fun _ w hR a hk => qc hR hk) fun a hk => ?_
          refine qst (.bool (!y38)) hk rfl rfl rfl rfl (fun w hs => sv (.bool (!y38)) hk rfl rfl rfl fun a hk => qe hk) fun a hk => ?_
          refine wml_nil fun w hF _ => ?_
          have hs := hs.f hF
          refine hK23 _ _ ?_
          rcases cond_some H with ⟨c40, H⟩ | ⟨c40, H⟩
          · have hk := hk.lit 26 c40 rfl
            refine cnd_true hk rfl rfl ?_
            apply wp_seq_k; intro K41 hK41
            apply wp_region_lit
            refine sa _ rfl hk rfl rfl rfl fun a hk => ?_
            show wpList _ _ _ [] _ _
            refine wpList_nil ?_
            refine hK41 _ _ ?_
            refine wp_ret ?_
            obtain rfl := Option.some.inj H
            have ho11 := h18
            try dsimp only at ho11
            subst ho11
            have H := HL13
            try dsimp only at H
            obtain rfl := Option.some.inj H
            exact fin hk _ [(.bool false)] rfl ⟨rfl, trivial⟩ ⟨rfl, (hs.pick [] rfl).dnil⟩
          · have hk := hk.lit 26 c40 rfl
            refine cnd_false hk rfl rfl ?_
            refine wp_skip ?_
            refine hK22 _ _ ?_
            apply wp_region_lit
            refine sm _ rfl hk rfl rfl rfl fun a hk => ?_
            refine sv (.int .i64 (w64 (u10 + 1))) hk rfl rfl rfl fun a hk => ?_
            refine sa _ rfl hk rfl rfl rfl fun a hk => ?_
            show wpList _ _ _ [] _ _
            refine wpList_nil ?_
            obtain rfl := Option.some.inj H
            obtain ⟨m42, hmm42, h18⟩ := h18
            show ∃ n', n' < _ ∧ I15 n' _ _
            refine ⟨m42, hmm42, ?_⟩
            rw [hI15]
            exact ⟨(w64 (u10 + 1)), h18, (hk.c 0 rfl (hk.c 1 rfl (hk.c 5 rfl hk.k))), (hs.pick [] rfl)⟩
        · have hk := hk.lit 14 c21 rfl
          refine cnd_false hk rfl rfl ?_
          refine wp_exit ?_
          obtain rfl := Option.some.inj H
          show R14 _ _
          rw [hR14]
          exact ⟨h18.symm, hk.k, (hs.pick [] rfl)⟩
    · intro a w hR0
      rw [hR14] at hR0
      obtain ⟨rfl, hk, hs⟩ := hR0
      have H := HL13
      try dsimp only at H
      refine hK6 _ _ ?_
      apply wp_seq_k; intro K43 hK43
      apply wp_region_lit
      refine sa _ rfl hk rfl rfl rfl fun a hk => ?_
      show wpList _ _ _ [] _ _
      refine wpList_nil ?_
      refine hK43 _ _ ?_
      refine wp_ret ?_
      obtain rfl := Option.some.inj H
      exact fin hk _ [(.bool true)] rfl ⟨rfl, trivial⟩ ⟨rfl, (hs.pick [] rfl).dnil⟩

noncomputable def laws_eqIntS.s0 (l0 : List Int) (l1 : List Int) (u10 : Int) : Option ((Int) ⊕ Ex (Unit) (Bool)) :=
  (bif (decide (u10 < (l0.length : Int))) then (if 0 ≤ u10 ∧ u10 < (l0.length : Int) then (if 0 ≤ u10 ∧ u10 < (l1.length : Int) then (bif ((l0.getD u10.toNat 0) != (l1.getD u10.toNat 0)) then (some (.inr (.ret false))) else (some (.inl (w64 (u10 + 1))))) else none) else none) else (some (.inr (.out ()))))
noncomputable def laws_eqIntS.f (l0 : List Int) (l1 : List Int) : Option (Bool) :=
  (bif ((l0.length : Int) != (l1.length : Int)) then (some false) else ((loopO (fun s => laws_eqIntS.s0 l0 l1 s) 0).bind fun o => match o with | .out _ => (some true) | .ret r => (some r)))
set_option maxRecDepth 100000 in
set_option maxHeartbeats 0 in
theorem laws_eqIntS_t (w0 : World) (A0_ : Option Addr) (p0_ : Nat) (l0 : List Int) (k0_ : Chunk) (v0_ : View (Lay.int .i64) A0_ p0_ l0 k0_) (w0_ : Has w0 k0_) (A1_ : Option Addr) (p1_ : Nat) (l1 : List Int) (k1_ : Chunk) (v1_ : View (Lay.int .i64) A1_ p1_ l1 k1_) (w1_ : Has w0 k1_) (r : Bool) (H : laws_eqIntS.f l0 l1 = some r) :
    Calls Try.prog 66 #[.slice A0_ l0.length p0_, .slice A1_ l1.length p1_] w0 (Ret (fun v w => v = .bool r ∧ Sat [] w0 w [] [])) := by
  have hs : Sat [] w0 w0 [(1, k0_), (2, k1_)] [] := Sat.init w0 [(1, k0_), (2, k1_)] [] (by simp only [List.mem_cons, List.not_mem_nil, or_false]; rintro x (rfl | rfl) <;> assumption) (by simp) List.nodup_nil (by simp [blks])
  unfold laws_eqIntS.f at H
  refine enter Try.func66 rfl Try.ntmps66 rfl fun a hk => ?_
  apply wp_seq_k; intro K1 hK1
  apply wp_region_lit
  refine sa _ rfl hk rfl rfl rfl fun a hk => ?_
  show wpList _ _ _ [] _ _
  refine wpList_nil ?_
  refine hK1 _ _ ?_
  apply wp_seq_k; intro K2 hK2
  apply wp_seq_k; intro K3 hK3
  apply wp_region_lit
  refine sm _ rfl hk rfl rfl rfl fun a hk => ?_
  refine sle rfl hk rfl rfl rfl un43 fun a hk => ?_
  refine sm _ rfl hk rfl rfl rfl fun a hk => ?_
  refine sle rfl hk rfl rfl rfl un43 fun a hk => ?_
  refine sv (.bool ((l0.length : Int) != (l1.length : Int))) hk rfl rfl rfl fun a hk => ?_
  show wpList _ _ _ [] _ _
  refine wpList_nil ?_
  refine hK3 _ _ ?_
  rcases cond_some H with ⟨c4, H⟩ | ⟨c4, H⟩
  · have hk := hk.lit 10 c4 rfl
    refine cnd_true hk rfl rfl ?_
    apply wp_seq_k; intro K5 hK5
    apply wp_region_lit
    refine sa _ rfl hk rfl rfl rfl fun a hk => ?_
    show wpList _ _ _ [] _ _
    refine wpList_nil ?_
    refine hK5 _ _ ?_
    refine wp_ret ?_
    obtain rfl := Option.some.inj H
    exact fin hk _ [(.bool false)] rfl ⟨rfl, trivial⟩ ⟨rfl, (hs.pick [] rfl).dnil⟩
  · have hk := hk.lit 10 c4 rfl
    refine cnd_false hk rfl rfl ?_
    refine wp_skip ?_
    refine hK2 _ _ ?_
    apply wp_seq_k; intro K6 hK6
    apply wp_seq_k; intro K7 hK7
    apply wp_region_lit
    refine sa _ rfl hk rfl rfl rfl fun a hk => ?_
    show wpList _ _ _ [] _ _
    refine wpList_nil ?_
    refine hK7 _ _ ?_
    obtain ⟨o11, h12, HL13⟩ := bind_some H
    clear H
    obtain ⟨R14, hR14⟩ : ∃ R : Act → World → Prop, R = fun a w => o11 = .out () ∧ Kn [] 26 a ∧ Sat [] w0 w [(1, k0_), (2, k1_)] [] := ⟨_, rfl⟩
    refine wp_cutq R14 ?_ ?_
    · refine wp_block ?_
      obtain ⟨fu16, h12⟩ := loopO_some h12
      obtain ⟨I15, hI15⟩ : ∃ I : Nat → Act → World → Prop, I = fun fu a w => ∃ (u10 : Int), loopN (fun s => laws_eqIntS.s0 l0 l1 s) fu u10 = some o11 ∧ Kn [(0, (.slice A0_ l0.length p0_)), (1, (.slice A1_ l1.length p1_)), (5, (.int .i64 u10))] 26 a ∧ Sat [] w0 w [(1, k0_), (2, k1_)] [] := ⟨_, rfl⟩
      refine wp_loop_ghost I15 fu16 ?_ ?_
      · rw [hI15]
        exact ⟨0, h12, (hk.c 0 rfl (hk.c 1 rfl (hk.c 5 rfl hk.k))), (hs.pick [] rfl)⟩
      · clear h12 hk hs
        intro fu16 a w hI0
        rw [hI15] at hI0
        obtain ⟨u10, hi, hk, hs⟩ := hI0
        obtain ⟨x17, H, h18⟩ := loop_round hi
        try dsimp only at H
        unfold laws_eqIntS.s0 at H
        apply wp_seq_k; intro K19 hK19
        apply wp_seq_k; intro K20 hK20
        apply wp_region_lit
        refine sm _ rfl hk rfl rfl rfl fun a hk => ?_
        refine sm _ rfl hk rfl rfl rfl fun a hk => ?_
        refine sle rfl hk rfl rfl rfl un43 fun a hk => ?_
        refine sv (.bool (decide (u10 < (l0.length : Int)))) hk rfl rfl rfl fun a hk => ?_
        show wpList _ _ _ [] _ _
        refine wpList_nil ?_
        refine hK20 _ _ ?_
        rcases cond_some H with ⟨c21, H⟩ | ⟨c21, H⟩
        · have hk := hk.lit 14 c21 rfl
          refine cnd_true hk rfl rfl ?_
          refine wp_skip ?_
          refine hK19 _ _ ?_
          apply wp_seq_k; intro K22 hK22
          refine wp_block ?_
          apply wp_seq_k; intro K23 hK23
          refine wp_region_mix [(0, true), (1, true), (2, true), (3, true), (4, true), (5, true), (6, true), (7, true), (8, true)] mo (by kernel_rfl) hs fun _ => ?_
          have hs := hs.drew
          refine qst (.slice A0_ l0.length p0_) hk rfl rfl rfl rfl (fun w hs => sm _ rfl hk rfl rfl rfl fun a hk => qe hk) fun a hk => ?_
          refine qst (.int .i64 u10) hk rfl rfl rfl rfl (fun w hs => sm _ rfl hk rfl rfl rfl fun a hk => qe hk) fun a hk => ?_
          rcases ite_some H with ⟨c24, H⟩ | ⟨_, H⟩
          rotate_left
          · cases H
          obtain ⟨b25, q26, hAc24⟩ := (v0_).some_ u10 c24.1 c24.2
          refine qst (.pointer (some (padd A0_ (u10.toNat * 1)))) hk rfl rfl rfl rfl (fun w hs => si rfl hk rfl rfl rfl rfl un43 sz3 c24.1 c24.2 hAc24 fun a hk => qe hk) fun a hk => ?_
          obtain ⟨_, rfl, e27⟩ := (v0_).at_ 0 u10 c24.1 c24.2
          refine qst (.int .i64 (l0.getD u10.toNat 0)) hk rfl rfl rfl rfl (fun w hs => sl (v := (.int .i64 (l0.getD u10.toNat 0))) rfl hk rfl rfl rfl ag3 ((e27 0 _ rfl).cell (hs.hasD (k := 1) rfl)) fun a hk => qe hk) fun a hk => ?_
          refine qst (.slice A1_ l1.length p1_) hk rfl rfl rfl rfl (fun w hs => sm _ rfl hk rfl rfl rfl fun a hk => qe hk) fun a hk => ?_
          refine qst (.int .i64 u10) hk rfl rfl rfl rfl (fun w hs => sm _ rfl hk rfl rfl rfl fun a hk => qe hk) fun a hk => ?_
          rcases ite_some H with ⟨c28, H⟩ | ⟨_, H⟩
          rotate_left
          · cases H
          obtain ⟨b29, q30, hAc28⟩ := (v1_).some_ u10 c28.1 c28.2
          refine qst (.pointer (some (padd A1_ (u10.toNat * 1)))) hk rfl rfl rfl rfl (fun w hs => si rfl hk rfl rfl rfl rfl un43 sz3 c28.1 c28.2 hAc28 fun a hk => qe hk) fun a hk => ?_
          obtain ⟨_, rfl, e31⟩ := (v1_).at_ 0 u10 c28.1 c28.2
          refine qst (.int .i64 (l1.getD u10.toNat 0)) hk rfl rfl rfl rfl (fun w hs => sl (v := (.int .i64 (l1.getD u10.toNat 0))) rfl hk rfl rfl rfl ag3 ((e31 0 _ rfl).cell (hs.hasD (k := 2) rfl)) fun a hk => qe hk) fun a hk => ?_
          refine qst (.bool ((l0.getD u10.toNat 0) != (l1.getD u10.toNat 0))) hk rfl rfl rfl rfl (fun w hs => sv (.bool ((l0.getD u10.toNat 0) != (l1.getD u10.toNat 0))) hk rfl rfl rfl fun a hk => qe hk) fun a hk => ?_
          refine wml_nil fun w hF _ => ?_
          have hs := hs.f hF
          refine hK23 _ _ ?_
          rcases cond_some H with ⟨c32, H⟩ | ⟨c32, H⟩
          · have hk := hk.lit 25 c32 rfl
            refine cnd_true hk rfl rfl ?_
            apply wp_seq_k; intro K33 hK33
            apply wp_region_lit
            refine sa _ rfl hk rfl rfl rfl fun a hk => ?_
            show wpList _ _ _ [] _ _
            refine wpList_nil ?_
            refine hK33 _ _ ?_
            refine wp_ret ?_
            obtain rfl := Option.some.inj H
            have ho11 := h18
            try dsimp only at ho11
            subst ho11
            have H := HL13
            try dsimp only at H
            obtain rfl := Option.some.inj H
            exact fin hk _ [(.bool false)] rfl ⟨rfl, trivial⟩ ⟨rfl, (hs.pick [] rfl).dnil⟩
          · have hk := hk.lit 25 c32 rfl
            refine cnd_false hk rfl rfl ?_
            refine wp_skip ?_
            refine hK22 _ _ ?_
            apply wp_region_lit
            refine sm _ rfl hk rfl rfl rfl fun a hk => ?_
            refine sv (.int .i64 (w64 (u10 + 1))) hk rfl rfl rfl fun a hk => ?_
            refine sa _ rfl hk rfl rfl rfl fun a hk => ?_
            show wpList _ _ _ [] _ _
            refine wpList_nil ?_
            obtain rfl := Option.some.inj H
            obtain ⟨m34, hmm34, h18⟩ := h18
            show ∃ n', n' < _ ∧ I15 n' _ _
            refine ⟨m34, hmm34, ?_⟩
            rw [hI15]
            exact ⟨(w64 (u10 + 1)), h18, (hk.c 0 rfl (hk.c 1 rfl (hk.c 5 rfl hk.k))), (hs.pick [] rfl)⟩
        · have hk := hk.lit 14 c21 rfl
          refine cnd_false hk rfl rfl ?_
          refine wp_exit ?_
          obtain rfl := Option.some.inj H
          show R14 _ _
          rw [hR14]
          exact ⟨h18.symm, hk.k, (hs.pick [] rfl)⟩
    · intro a w hR0
      rw [hR14] at hR0
      obtain ⟨rfl, hk, hs⟩ := hR0
      have H := HL13
      try dsimp only at H
      refine hK6 _ _ ?_
      apply wp_seq_k; intro K35 hK35
      apply wp_region_lit
      refine sa _ rfl hk rfl rfl rfl fun a hk => ?_
      show wpList _ _ _ [] _ _
      refine wpList_nil ?_
      refine hK35 _ _ ?_
      refine wp_ret ?_
      obtain rfl := Option.some.inj H
      exact fin hk _ [(.bool true)] rfl ⟨rfl, trivial⟩ ⟨rfl, (hs.pick [] rfl).dnil⟩

noncomputable def laws_eqAct.f (x0 : S_Act) (x1 : S_Act) : Option (Bool) :=
  (bif (x0.Kind != x1.Kind) then (some false) else (bif (x0.Phase != x1.Phase) then (some false) else (bif (x0.At != x1.At) then (some false) else (bif (x0.Place != x1.Place) then (some false) else (bif (x0.By != x1.By) then (some false) else ((laws_eqTxnS.f x0.Batch x1.Batch).bind fun y26 => (bif (!y26) then (some false) else ((laws_eqIntS.f x0.Draws x1.Draws).bind fun y32 => (bif (!y32) then (some false) else ((laws_eqIntS.f x0.Fates x1.Fates).bind fun y38 => (bif (!y38) then (some false) else (some true))))))))))))
set_option maxRecDepth 100000 in
set_option maxHeartbeats 0 in
theorem laws_eqAct_t (w0 : World) (x0 : S_Act) (A0_0 : Option Addr) (p0_0 : Nat) (k0_0 : Chunk) (v0_0 : View L_impl_Txn A0_0 p0_0 x0.Batch k0_0) (w0_0 : Has w0 k0_0) (A0_1 : Option Addr) (p0_1 : Nat) (k0_1 : Chunk) (v0_1 : View (Lay.int .i64) A0_1 p0_1 x0.Draws k0_1) (w0_1 : Has w0 k0_1) (A0_2 : Option Addr) (p0_2 : Nat) (k0_2 : Chunk) (v0_2 : View (Lay.int .i64) A0_2 p0_2 x0.Fates k0_2) (w0_2 : Has w0 k0_2) (x1 : S_Act) (A1_0 : Option Addr) (p1_0 : Nat) (k1_0 : Chunk) (v1_0 : View L_impl_Txn A1_0 p1_0 x1.Batch k1_0) (w1_0 : Has w0 k1_0) (A1_1 : Option Addr) (p1_1 : Nat) (k1_1 : Chunk) (v1_1 : View (Lay.int .i64) A1_1 p1_1 x1.Draws k1_1) (w1_1 : Has w0 k1_1) (A1_2 : Option Addr) (p1_2 : Nat) (k1_2 : Chunk) (v1_2 : View (Lay.int .i64) A1_2 p1_2 x1.Fates k1_2) (w1_2 : Has w0 k1_2) (r : Bool) (H : laws_eqAct.f x0 x1 = some r) :
    Calls Try.prog 22 #[.agg #[.int .i64 x0.Kind, .int .i64 x0.Phase, .int .i64 x0.At, .int .i64 x0.Place, .int .i64 x0.By, .slice A0_0 x0.Batch.length p0_0, .slice A0_1 x0.Draws.length p0_1, .slice A0_2 x0.Fates.length p0_2], .agg #[.int .i64 x1.Kind, .int .i64 x1.Phase, .int .i64 x1.At, .int .i64 x1.Place, .int .i64 x1.By, .slice A1_0 x1.Batch.length p1_0, .slice A1_1 x1.Draws.length p1_1, .slice A1_2 x1.Fates.length p1_2]] w0 (Ret (fun v w => v = .bool r ∧ Sat [] w0 w [] [])) := by
  have hs : Sat [] w0 w0 [(1, k0_0), (2, k0_1), (3, k0_2), (4, k1_0), (5, k1_1), (6, k1_2)] [] := Sat.init w0 [(1, k0_0), (2, k0_1), (3, k0_2), (4, k1_0), (5, k1_1), (6, k1_2)] [] (by simp only [List.mem_cons, List.not_mem_nil, or_false]; rintro x (rfl | rfl | rfl | rfl | rfl | rfl) <;> assumption) (by simp) List.nodup_nil (by simp [blks])
  unfold laws_eqAct.f at H
  refine enter Try.func22 rfl Try.ntmps22 rfl fun a hk => ?_
  apply wp_seq_k; intro K1 hK1
  apply wp_region_lit
  refine sbx 7 hs rfl hk rfl rfl rfl rfl fun b2 w a hk hs => ?_
  refine sbx 8 hs rfl hk rfl rfl rfl rfl fun b3 w a hk hs => ?_
  refine sa _ rfl hk rfl rfl rfl fun a hk => ?_
  show wpList _ _ _ [] _ _
  refine wpList_nil ?_
  refine hK1 _ _ ?_
  apply wp_seq_k; intro K4 hK4
  apply wp_seq_k; intro K5 hK5
  apply wp_region_lit
  refine sf ⟨b2, 0, none⟩ rfl hk rfl rfl rfl fd50_0 rfl fun a hk => ?_
  refine sl rfl hk rfl rfl rfl ag3 (box_cell hs (k := 7) rfl rfl) fun a hk => ?_
  refine sf ⟨b3, 0, none⟩ rfl hk rfl rfl rfl fd50_0 rfl fun a hk => ?_
  refine sl rfl hk rfl rfl rfl ag3 (box_cell hs (k := 8) rfl rfl) fun a hk => ?_
  refine sv (.bool (x0.Kind != x1.Kind)) hk rfl rfl rfl fun a hk => ?_
  show wpList _ _ _ [] _ _
  refine wpList_nil ?_
  refine hK5 _ _ ?_
  rcases cond_some H with ⟨c6, H⟩ | ⟨c6, H⟩
  · have hk := hk.lit 9 c6 rfl
    refine cnd_true hk rfl rfl ?_
    apply wp_seq_k; intro K7 hK7
    apply wp_region_lit
    refine sa _ rfl hk rfl rfl rfl fun a hk => ?_
    show wpList _ _ _ [] _ _
    refine wpList_nil ?_
    refine hK7 _ _ ?_
    refine wp_ret ?_
    obtain rfl := Option.some.inj H
    exact fin hk _ [(.bool false)] rfl ⟨rfl, trivial⟩ ⟨rfl, (hs.pick [] rfl).dnil⟩
  · have hk := hk.lit 9 c6 rfl
    refine cnd_false hk rfl rfl ?_
    refine wp_skip ?_
    refine hK4 _ _ ?_
    apply wp_seq_k; intro K8 hK8
    apply wp_seq_k; intro K9 hK9
    apply wp_region_lit
    refine sf ⟨b2, 1, none⟩ rfl hk rfl rfl rfl fd50_1 rfl fun a hk => ?_
    refine sl rfl hk rfl rfl rfl ag3 (box_cell hs (k := 7) rfl rfl) fun a hk => ?_
    refine sf ⟨b3, 1, none⟩ rfl hk rfl rfl rfl fd50_1 rfl fun a hk => ?_
    refine sl rfl hk rfl rfl rfl ag3 (box_cell hs (k := 8) rfl rfl) fun a hk => ?_
    refine sv (.bool (x0.Phase != x1.Phase)) hk rfl rfl rfl fun a hk => ?_
    show wpList _ _ _ [] _ _
    refine wpList_nil ?_
    refine hK9 _ _ ?_
    rcases cond_some H with ⟨c10, H⟩ | ⟨c10, H⟩
    · have hk := hk.lit 14 c10 rfl
      refine cnd_true hk rfl rfl ?_
      apply wp_seq_k; intro K11 hK11
      apply wp_region_lit
      refine sa _ rfl hk rfl rfl rfl fun a hk => ?_
      show wpList _ _ _ [] _ _
      refine wpList_nil ?_
      refine hK11 _ _ ?_
      refine wp_ret ?_
      obtain rfl := Option.some.inj H
      exact fin hk _ [(.bool false)] rfl ⟨rfl, trivial⟩ ⟨rfl, (hs.pick [] rfl).dnil⟩
    · have hk := hk.lit 14 c10 rfl
      refine cnd_false hk rfl rfl ?_
      refine wp_skip ?_
      refine hK8 _ _ ?_
      apply wp_seq_k; intro K12 hK12
      apply wp_seq_k; intro K13 hK13
      apply wp_region_lit
      refine sf ⟨b2, 2, none⟩ rfl hk rfl rfl rfl fd50_2 rfl fun a hk => ?_
      refine sl rfl hk rfl rfl rfl ag3 (box_cell hs (k := 7) rfl rfl) fun a hk => ?_
      refine sf ⟨b3, 2, none⟩ rfl hk rfl rfl rfl fd50_2 rfl fun a hk => ?_
      refine sl rfl hk rfl rfl rfl ag3 (box_cell hs (k := 8) rfl rfl) fun a hk => ?_
      refine sv (.bool (x0.At != x1.At)) hk rfl rfl rfl fun a hk => ?_
      show wpList _ _ _ [] _ _
      refine wpList_nil ?_
      refine hK13 _ _ ?_
      rcases cond_some H with ⟨c14, H⟩ | ⟨c14, H⟩
      · have hk := hk.lit 19 c14 rfl
        refine cnd_true hk rfl rfl ?_
        apply wp_seq_k; intro K15 hK15
        apply wp_region_lit
        refine sa _ rfl hk rfl rfl rfl fun a hk => ?_
        show wpList _ _ _ [] _ _
        refine wpList_nil ?_
        refine hK15 _ _ ?_
        refine wp_ret ?_
        obtain rfl := Option.some.inj H
        exact fin hk _ [(.bool false)] rfl ⟨rfl, trivial⟩ ⟨rfl, (hs.pick [] rfl).dnil⟩
      · have hk := hk.lit 19 c14 rfl
        refine cnd_false hk rfl rfl ?_
        refine wp_skip ?_
        refine hK12 _ _ ?_
        apply wp_seq_k; intro K16 hK16
        apply wp_seq_k; intro K17 hK17
        apply wp_region_lit
        refine sf ⟨b2, 3, none⟩ rfl hk rfl rfl rfl fd50_3 rfl fun a hk => ?_
        refine sl rfl hk rfl rfl rfl ag3 (box_cell hs (k := 7) rfl rfl) fun a hk => ?_
        refine sf ⟨b3, 3, none⟩ rfl hk rfl rfl rfl fd50_3 rfl fun a hk => ?_
        refine sl rfl hk rfl rfl rfl ag3 (box_cell hs (k := 8) rfl rfl) fun a hk => ?_
        refine sv (.bool (x0.Place != x1.Place)) hk rfl rfl rfl fun a hk => ?_
        show wpList _ _ _ [] _ _
        refine wpList_nil ?_
        refine hK17 _ _ ?_
        rcases cond_some H with ⟨c18, H⟩ | ⟨c18, H⟩
        · have hk := hk.lit 24 c18 rfl
          refine cnd_true hk rfl rfl ?_
          apply wp_seq_k; intro K19 hK19
          apply wp_region_lit
          refine sa _ rfl hk rfl rfl rfl fun a hk => ?_
          show wpList _ _ _ [] _ _
          refine wpList_nil ?_
          refine hK19 _ _ ?_
          refine wp_ret ?_
          obtain rfl := Option.some.inj H
          exact fin hk _ [(.bool false)] rfl ⟨rfl, trivial⟩ ⟨rfl, (hs.pick [] rfl).dnil⟩
        · have hk := hk.lit 24 c18 rfl
          refine cnd_false hk rfl rfl ?_
          refine wp_skip ?_
          refine hK16 _ _ ?_
          apply wp_seq_k; intro K20 hK20
          apply wp_seq_k; intro K21 hK21
          apply wp_region_lit
          refine sf ⟨b2, 4, none⟩ rfl hk rfl rfl rfl fd50_4 rfl fun a hk => ?_
          refine sl rfl hk rfl rfl rfl ag3 (box_cell hs (k := 7) rfl rfl) fun a hk => ?_
          refine sf ⟨b3, 4, none⟩ rfl hk rfl rfl rfl fd50_4 rfl fun a hk => ?_
          refine sl rfl hk rfl rfl rfl ag3 (box_cell hs (k := 8) rfl rfl) fun a hk => ?_
          refine sv (.bool (x0.By != x1.By)) hk rfl rfl rfl fun a hk => ?_
          show wpList _ _ _ [] _ _
          refine wpList_nil ?_
          refine hK21 _ _ ?_
          rcases cond_some H with ⟨c22, H⟩ | ⟨c22, H⟩
          · have hk := hk.lit 29 c22 rfl
            refine cnd_true hk rfl rfl ?_
            apply wp_seq_k; intro K23 hK23
            apply wp_region_lit
            refine sa _ rfl hk rfl rfl rfl fun a hk => ?_
            show wpList _ _ _ [] _ _
            refine wpList_nil ?_
            refine hK23 _ _ ?_
            refine wp_ret ?_
            obtain rfl := Option.some.inj H
            exact fin hk _ [(.bool false)] rfl ⟨rfl, trivial⟩ ⟨rfl, (hs.pick [] rfl).dnil⟩
          · have hk := hk.lit 29 c22 rfl
            refine cnd_false hk rfl rfl ?_
            refine wp_skip ?_
            refine hK20 _ _ ?_
            apply wp_seq_k; intro K24 hK24
            apply wp_seq_k; intro K25 hK25
            apply wp_region_lit
            refine sf ⟨b2, 5, none⟩ rfl hk rfl rfl rfl fd50_5 rfl fun a hk => ?_
            refine sl rfl hk rfl rfl rfl ag48 (box_cell hs (k := 7) rfl rfl) fun a hk => ?_
            refine sf ⟨b3, 5, none⟩ rfl hk rfl rfl rfl fd50_5 rfl fun a hk => ?_
            refine sl rfl hk rfl rfl rfl ag48 (box_cell hs (k := 8) rfl rfl) fun a hk => ?_
            obtain ⟨y26, h27, H⟩ := bind_some H
            refine sc rfl en27 hk rfl rfl rfl (laws_eqTxnS_t _ A0_0 p0_0 x0.Batch _ v0_0 (hs.hasD (k := 1) rfl) A1_0 p1_0 x1.Batch _ v1_0 (hs.hasD (k := 4) rfl) _ h27) ?_
            rintro _ w ⟨rfl, hG⟩ a hk
            have hs := hs.call0 hG
            refine sv (.bool (!y26)) hk rfl rfl rfl fun a hk => ?_
            show wpList _ _ _ [] _ _
            refine wpList_nil ?_
            refine hK25 _ _ ?_
            rcases cond_some H with ⟨c28, H⟩ | ⟨c28, H⟩
            · have hk := hk.lit 35 c28 rfl
              refine cnd_true hk rfl rfl ?_
              apply wp_seq_k; intro K29 hK29
              apply wp_region_lit
              refine sa _ rfl hk rfl rfl rfl fun a hk => ?_
              show wpList _ _ _ [] _ _
              refine wpList_nil ?_
              refine hK29 _ _ ?_
              refine wp_ret ?_
              obtain rfl := Option.some.inj H
              exact fin hk _ [(.bool false)] rfl ⟨rfl, trivial⟩ ⟨rfl, (hs.pick [] rfl).dnil⟩
            · have hk := hk.lit 35 c28 rfl
              refine cnd_false hk rfl rfl ?_
              refine wp_skip ?_
              refine hK24 _ _ ?_
              apply wp_seq_k; intro K30 hK30
              apply wp_seq_k; intro K31 hK31
              apply wp_region_lit
              refine sf ⟨b2, 6, none⟩ rfl hk rfl rfl rfl fd50_6 rfl fun a hk => ?_
              refine sl rfl hk rfl rfl rfl ag43 (box_cell hs (k := 7) rfl rfl) fun a hk => ?_
              refine sf ⟨b3, 6, none⟩ rfl hk rfl rfl rfl fd50_6 rfl fun a hk => ?_
              refine sl rfl hk rfl rfl rfl ag43 (box_cell hs (k := 8) rfl rfl) fun a hk => ?_
              obtain ⟨y32, h33, H⟩ := bind_some H
              refine sc rfl en66 hk rfl rfl rfl (laws_eqIntS_t _ A0_1 p0_1 x0.Draws _ v0_1 (hs.hasD (k := 2) rfl) A1_1 p1_1 x1.Draws _ v1_1 (hs.hasD (k := 5) rfl) _ h33) ?_
              rintro _ w ⟨rfl, hG⟩ a hk
              have hs := hs.call0 hG
              refine sv (.bool (!y32)) hk rfl rfl rfl fun a hk => ?_
              show wpList _ _ _ [] _ _
              refine wpList_nil ?_
              refine hK31 _ _ ?_
              rcases cond_some H with ⟨c34, H⟩ | ⟨c34, H⟩
              · have hk := hk.lit 41 c34 rfl
                refine cnd_true hk rfl rfl ?_
                apply wp_seq_k; intro K35 hK35
                apply wp_region_lit
                refine sa _ rfl hk rfl rfl rfl fun a hk => ?_
                show wpList _ _ _ [] _ _
                refine wpList_nil ?_
                refine hK35 _ _ ?_
                refine wp_ret ?_
                obtain rfl := Option.some.inj H
                exact fin hk _ [(.bool false)] rfl ⟨rfl, trivial⟩ ⟨rfl, (hs.pick [] rfl).dnil⟩
              · have hk := hk.lit 41 c34 rfl
                refine cnd_false hk rfl rfl ?_
                refine wp_skip ?_
                refine hK30 _ _ ?_
                apply wp_seq_k; intro K36 hK36
                apply wp_seq_k; intro K37 hK37
                apply wp_region_lit
                refine sf ⟨b2, 7, none⟩ rfl hk rfl rfl rfl fd50_7 rfl fun a hk => ?_
                refine sl rfl hk rfl rfl rfl ag43 (box_cell hs (k := 7) rfl rfl) fun a hk => ?_
                refine sf ⟨b3, 7, none⟩ rfl hk rfl rfl rfl fd50_7 rfl fun a hk => ?_
                refine sl rfl hk rfl rfl rfl ag43 (box_cell hs (k := 8) rfl rfl) fun a hk => ?_
                obtain ⟨y38, h39, H⟩ := bind_some H
                refine sc rfl en66 hk rfl rfl rfl (laws_eqIntS_t _ A0_2 p0_2 x0.Fates _ v0_2 (hs.hasD (k := 3) rfl) A1_2 p1_2 x1.Fates _ v1_2 (hs.hasD (k := 6) rfl) _ h39) ?_
                rintro _ w ⟨rfl, hG⟩ a hk
                have hs := hs.call0 hG
                refine sv (.bool (!y38)) hk rfl rfl rfl fun a hk => ?_
                show wpList _ _ _ [] _ _
                refine wpList_nil ?_
                refine hK37 _ _ ?_
                rcases cond_some H with ⟨c40, H⟩ | ⟨c40, H⟩
                · have hk := hk.lit 47 c40 rfl
                  refine cnd_true hk rfl rfl ?_
                  apply wp_seq_k; intro K41 hK41
                  apply wp_region_lit
                  refine sa _ rfl hk rfl rfl rfl fun a hk => ?_
                  show wpList _ _ _ [] _ _
                  refine wpList_nil ?_
                  refine hK41 _ _ ?_
                  refine wp_ret ?_
                  obtain rfl := Option.some.inj H
                  exact fin hk _ [(.bool false)] rfl ⟨rfl, trivial⟩ ⟨rfl, (hs.pick [] rfl).dnil⟩
                · have hk := hk.lit 47 c40 rfl
                  refine cnd_false hk rfl rfl ?_
                  refine wp_skip ?_
                  refine hK36 _ _ ?_
                  apply wp_seq_k; intro K42 hK42
                  apply wp_region_lit
                  refine sa _ rfl hk rfl rfl rfl fun a hk => ?_
                  show wpList _ _ _ [] _ _
                  refine wpList_nil ?_
                  refine hK42 _ _ ?_
                  refine wp_ret ?_
                  obtain rfl := Option.some.inj H
                  exact fin hk _ [(.bool true)] rfl ⟨rfl, trivial⟩ ⟨rfl, (hs.pick [] rfl).dnil⟩

noncomputable def laws_FnExactActOK.f (x0 : S_Act) : Option (Bool) :=
  ((laws_szAct.f x0 1048576).bind fun y5 => (bif (decide (y5 < 0)) then (some true) else ((laws_toAct.f x0).bind fun y12 => ((spec_ActOK.f y12).bind fun y26 => ((laws_toAct.f x0).bind fun y29 => ((impl_ActOK.f y29).bind fun y45 => (bif (!(y45 == y26)) then (some false) else ((laws_toAct.f x0).bind fun y54 => ((laws_eqAct.f y29 y54).bind fun y69 => (bif (!y69) then (some false) else (some true)))))))))))
set_option maxRecDepth 100000 in
set_option maxHeartbeats 0 in
theorem laws_FnExactActOK_t (w0 : World) (x0 : S_Act) (A0_0 : Option Addr) (p0_0 : Nat) (k0_0 : Chunk) (v0_0 : View L_laws_Txn A0_0 p0_0 x0.Batch k0_0) (w0_0 : Has w0 k0_0) (A0_1 : Option Addr) (p0_1 : Nat) (k0_1 : Chunk) (v0_1 : View (Lay.int .i64) A0_1 p0_1 x0.Draws k0_1) (w0_1 : Has w0 k0_1) (A0_2 : Option Addr) (p0_2 : Nat) (k0_2 : Chunk) (v0_2 : View (Lay.int .i64) A0_2 p0_2 x0.Fates k0_2) (w0_2 : Has w0 k0_2) (r : Bool) (H : laws_FnExactActOK.f x0 = some r) :
    Calls Try.prog 5 #[.agg #[.int .i64 x0.Kind, .int .i64 x0.Phase, .int .i64 x0.At, .int .i64 x0.Place, .int .i64 x0.By, .slice A0_0 x0.Batch.length p0_0, .slice A0_1 x0.Draws.length p0_1, .slice A0_2 x0.Fates.length p0_2]] w0 (Ret (fun v w => v = .bool r ∧ Sat [] w0 w [] [])) := by
  have hs : Sat [] w0 w0 [(1, k0_0), (2, k0_1), (3, k0_2)] [] := Sat.init w0 [(1, k0_0), (2, k0_1), (3, k0_2)] [] (by simp only [List.mem_cons, List.not_mem_nil, or_false]; rintro x (rfl | rfl | rfl) <;> assumption) (by simp) List.nodup_nil (by simp [blks])
  unfold laws_FnExactActOK.f at H
  refine enter Try.func5 rfl Try.ntmps5 rfl fun a hk => ?_
  apply wp_seq_k; intro K1 hK1
  apply wp_region_lit
  refine sbx 4 hs rfl hk rfl rfl rfl rfl fun b2 w a hk hs => ?_
  refine sa _ rfl hk rfl rfl rfl fun a hk => ?_
  show wpList _ _ _ [] _ _
  refine wpList_nil ?_
  refine hK1 _ _ ?_
  apply wp_seq_k; intro K3 hK3
  apply wp_region_lit
  refine sa _ rfl hk rfl rfl rfl fun a hk => ?_
  show wpList _ _ _ [] _ _
  refine wpList_nil ?_
  refine hK3 _ _ ?_
  apply wp_seq_k; intro K4 hK4
  apply wp_region_lit
  refine sln [.int .i64 x0.Kind, .int .i64 x0.Phase, .int .i64 x0.At, .int .i64 x0.Place, .int .i64 x0.By, .slice A0_0 x0.Batch.length p0_0, .slice A0_1 x0.Draws.length p0_1, .slice A0_2 x0.Fates.length p0_2] rfl hk rfl rfl rfl ag45 sz45 (box_cells hs (k := 4) rfl) fun a hk => ?_
  refine sm _ rfl hk rfl rfl rfl fun a hk => ?_
  obtain ⟨y5, h6, H⟩ := bind_some H
  refine sc rfl en18 hk rfl rfl rfl (laws_szAct_t _ x0 A0_0 p0_0 _ v0_0 (hs.hasD (k := 1) rfl) A0_1 p0_1 _ v0_1 (hs.hasD (k := 2) rfl) A0_2 p0_2 _ v0_2 (hs.hasD (k := 3) rfl) 1048576 _ h6) ?_
  rintro _ w ⟨rfl, hG⟩ a hk
  have hs := hs.call0 hG
  refine sa _ rfl hk rfl rfl rfl fun a hk => ?_
  show wpList _ _ _ [] _ _
  refine wpList_nil ?_
  refine hK4 _ _ ?_
  apply wp_seq_k; intro K7 hK7
  apply wp_seq_k; intro K8 hK8
  apply wp_region_lit
  refine sm _ rfl hk rfl rfl rfl fun a hk => ?_
  refine sv (.bool (decide (y5 < 0))) hk rfl rfl rfl fun a hk => ?_
  show wpList _ _ _ [] _ _
  refine wpList_nil ?_
  refine hK8 _ _ ?_
  rcases cond_some H with ⟨c9, H⟩ | ⟨c9, H⟩
  · have hk := hk.lit 11 c9 rfl
    refine cnd_true hk rfl rfl ?_
    apply wp_seq_k; intro K10 hK10
    apply wp_region_lit
    refine sa _ rfl hk rfl rfl rfl fun a hk => ?_
    show wpList _ _ _ [] _ _
    refine wpList_nil ?_
    refine hK10 _ _ ?_
    refine wp_ret ?_
    obtain rfl := Option.some.inj H
    exact fin hk _ [(.bool true)] rfl ⟨rfl, trivial⟩ ⟨rfl, (hs.pick [] rfl).dnil⟩
  · have hk := hk.lit 11 c9 rfl
    refine cnd_false hk rfl rfl ?_
    refine wp_skip ?_
    refine hK7 _ _ ?_
    apply wp_seq_k; intro K11 hK11
    apply wp_region_lit
    refine sln [.int .i64 x0.Kind, .int .i64 x0.Phase, .int .i64 x0.At, .int .i64 x0.Place, .int .i64 x0.By, .slice A0_0 x0.Batch.length p0_0, .slice A0_1 x0.Draws.length p0_1, .slice A0_2 x0.Fates.length p0_2] rfl hk rfl rfl rfl ag45 sz45 (box_cells hs (k := 4) rfl) fun a hk => ?_
    obtain ⟨y12, h13, H⟩ := bind_some H
    refine sc rfl en20 hk rfl rfl rfl (laws_toAct_t _ x0 A0_0 p0_0 _ v0_0 (hs.hasD (k := 1) rfl) A0_1 p0_1 _ v0_1 (hs.hasD (k := 2) rfl) A0_2 p0_2 _ v0_2 (hs.hasD (k := 3) rfl) _ h13) ?_
    rintro _ w ⟨A14, p15, k16, A18, p19, k20, A22, p23, k24, rfl, o17, o21, o25, hG⟩ a hk
    have hs := hs.call0k hG [5, 6, 7] rfl
    obtain ⟨y26, h27, H⟩ := bind_some H
    refine sc rfl en19 hk rfl rfl rfl (spec_ActOK_t _ y12 A14 p15 _ o17.view (hs.hasG (k := 5) rfl) A18 p19 _ o21.view (hs.hasG (k := 6) rfl) A22 p23 _ o25.view (hs.hasG (k := 7) rfl) _ h27) ?_
    rintro _ w ⟨rfl, hG⟩ a hk
    have hs := hs.call0 hG
    refine sa _ rfl hk rfl rfl rfl fun a hk => ?_
    show wpList _ _ _ [] _ _
    refine wpList_nil ?_
    refine hK11 _ _ ?_
    apply wp_seq_k; intro K28 hK28
    apply wp_region_lit
    refine sln [.int .i64 x0.Kind, .int .i64 x0.Phase, .int .i64 x0.At, .int .i64 x0.Place, .int .i64 x0.By, .slice A0_0 x0.Batch.length p0_0, .slice A0_1 x0.Draws.length p0_1, .slice A0_2 x0.Fates.length p0_2] rfl hk rfl rfl rfl ag45 sz45 (box_cells hs (k := 4) rfl) fun a hk => ?_
    obtain ⟨y29, h30, H⟩ := bind_some H
    refine sc rfl en20 hk rfl rfl rfl (laws_toAct_t _ x0 A0_0 p0_0 _ v0_0 (hs.hasD (k := 1) rfl) A0_1 p0_1 _ v0_1 (hs.hasD (k := 2) rfl) A0_2 p0_2 _ v0_2 (hs.hasD (k := 3) rfl) _ h30) ?_
    rintro _ w ⟨A31, p32, k33, A35, p36, k37, A39, p40, k41, rfl, o34, o38, o42, hG⟩ a hk
    have hs := hs.call0k hG [8, 9, 10] rfl
    refine salx 11 hs rfl hk rfl rfl ze50 rfl fun b43 w a hk hs => ?_
    refine ssw 11 hs rfl rfl hk rfl rfl rfl rfl sz50 (by simp [Value.oneCell']) rfl fun w a hk hs => ?_
    show wpList _ _ _ [] _ _
    refine wpList_nil ?_
    refine hK28 _ _ ?_
    apply wp_seq_k; intro K44 hK44
    apply wp_region_lit
    refine sln [.int .i64 y29.Kind, .int .i64 y29.Phase, .int .i64 y29.At, .int .i64 y29.Place, .int .i64 y29.By, .slice A31 y29.Batch.length p32, .slice A35 y29.Draws.length p36, .slice A39 y29.Fates.length p40] rfl hk rfl rfl rfl ag50 sz50 (box_cells hs (k := 11) rfl) fun a hk => ?_
    obtain ⟨y45, h46, H⟩ := bind_some H
    refine sc rfl en21 hk rfl rfl rfl (impl_ActOK_t _ y29 A31 p32 _ o34.view (hs.hasG (k := 8) rfl) A35 p36 _ o38.view (hs.hasG (k := 9) rfl) A39 p40 _ o42.view (hs.hasG (k := 10) rfl) _ h46) ?_
    rintro _ w ⟨rfl, hG⟩ a hk
    have hs := hs.call0 hG
    refine sa _ rfl hk rfl rfl rfl fun a hk => ?_
    show wpList _ _ _ [] _ _
    refine wpList_nil ?_
    refine hK44 _ _ ?_
    apply wp_seq_k; intro K47 hK47
    apply wp_seq_k; intro K48 hK48
    apply wp_region_lit
    refine sm _ rfl hk rfl rfl rfl fun a hk => ?_
    refine sm _ rfl hk rfl rfl rfl fun a hk => ?_
    refine sbn rfl hk rfl rfl rfl rfl un4 fun a hk => ?_
    show wpList _ _ _ [] _ _
    refine wpList_nil ?_
    refine hK48 _ _ ?_
    rcases cond_some H with ⟨c49, H⟩ | ⟨c49, H⟩
    · have hk := hk.lit 21 c49 rfl
      refine cnd_true hk rfl rfl ?_
      apply wp_seq_k; intro K50 hK50
      apply wp_region_lit
      refine sa _ rfl hk rfl rfl rfl fun a hk => ?_
      show wpList _ _ _ [] _ _
      refine wpList_nil ?_
      refine hK50 _ _ ?_
      refine wp_ret ?_
      obtain rfl := Option.some.inj H
      exact fin hk _ [(.bool false)] rfl ⟨rfl, trivial⟩ ⟨rfl, (hs.pick [] rfl).dnil⟩
    · have hk := hk.lit 21 c49 rfl
      refine cnd_false hk rfl rfl ?_
      refine wp_skip ?_
      refine hK47 _ _ ?_
      apply wp_seq_k; intro K51 hK51
      apply wp_seq_k; intro K52 hK52
      refine wp_region_mix [(0, true), (1, true), (2, false), (3, false), (4, false)] mo (by kernel_rfl) (hs.pick [(11, 11), (10, 10), (9, 9), (8, 8), (7, 7), (6, 6), (5, 5), (4, 4)] rfl) fun _ => ?_
      have hs := hs.drew
      refine qst (.agg #[.int .i64 y29.Kind, .int .i64 y29.Phase, .int .i64 y29.At, .int .i64 y29.Place, .int .i64 y29.By, .slice A31 y29.Batch.length p32, .slice A35 y29.Draws.length p36, .slice A39 y29.Fates.length p40]) hk rfl rfl rfl rfl (fun w hs => sln [.int .i64 y29.Kind, .int .i64 y29.Phase, .int .i64 y29.At, .int .i64 y29.Place, .int .i64 y29.By, .slice A31 y29.Batch.length p32, .slice A35 y29.Draws.length p36, .slice A39 y29.Fates.length p40] rfl hk rfl rfl rfl ag50 sz50 (box_cells hs (k := 11) rfl) fun a hk => qe hk) fun a hk => ?_
      refine qst (.agg #[.int .i64 x0.Kind, .int .i64 x0.Phase, .int .i64 x0.At, .int .i64 x0.Place, .int .i64 x0.By, .slice A0_0 x0.Batch.length p0_0, .slice A0_1 x0.Draws.length p0_1, .slice A0_2 x0.Fates.length p0_2]) hk rfl rfl rfl rfl (fun w hs => sln [.int .i64 x0.Kind, .int .i64 x0.Phase, .int .i64 x0.At, .int .i64 x0.Place, .int .i64 x0.By, .slice A0_0 x0.Batch.length p0_0, .slice A0_1 x0.Draws.length p0_1, .slice A0_2 x0.Fates.length p0_2] rfl hk rfl rfl rfl ag45 sz45 (box_cells hs (k := 4) rfl) fun a hk => qe hk) fun a hk => ?_
      refine sst hk rfl rfl fun K53 hK53 w hF => ?_
      have hs := hs.f hF
      obtain ⟨y54, h55, H⟩ := bind_some H
      refine sc rfl en20 hk rfl rfl rfl (laws_toAct_t _ x0 A0_0 p0_0 _ v0_0 (hs.hasD (k := 1) rfl) A0_1 p0_1 _ v0_1 (hs.hasD (k := 2) rfl) A0_2 p0_2 _ v0_2 (hs.hasD (k := 3) rfl) _ h55) ?_
      rintro _ w ⟨A56, p57, k58, A60, p61, k62, A64, p65, k66, rfl, o59, o63, o67, hG⟩ a hk
      have hs := hs.call0k hG [12, 13, 14] rfl
      refine se (hs.pick [(11, 11), (10, 10), (9, 9), (8, 8), (7, 7), (6, 6), (5, 5), (4, 4)] rfl) hk (hK53 _ _ ?_)
      refine sst hk rfl rfl fun K68 hK68 w hF => ?_
      have hs := hs.f hF
      obtain ⟨y69, h70, H⟩ := bind_some H
      refine sc rfl en22 hk rfl rfl rfl (laws_eqAct_t _ y29 A31 p32 _ o34.view (hs.hasG (k := 8) rfl) A35 p36 _ o38.view (hs.hasG (k := 9) rfl) A39 p40 _ o42.view (hs.hasG (k := 10) rfl) y54 A56 p57 _ o59.view (hs.hasG (k := 12) rfl) A60 p61 _ o63.view (hs.hasG (k := 13) rfl) A64 p65 _ o67.view (hs.hasG (k := 14) rfl) _ h70) ?_
      rintro _ w ⟨rfl, hG⟩ a hk
      have hs := hs.call0 hG
      refine se (hs.pick [(11, 11), (10, 10), (9, 9), (8, 8), (7, 7), (6, 6), (5, 5), (4, 4)] rfl) hk (hK68 _ _ ?_)
      refine sst hk rfl rfl fun K71 hK71 w hF => ?_
      have hs := hs.f hF
      refine sv (.bool (!y69)) hk rfl rfl rfl fun a hk => ?_
      refine se (hs.pick [(11, 11), (10, 10), (9, 9), (8, 8), (7, 7), (6, 6), (5, 5), (4, 4)] rfl) hk (hK71 _ _ ?_)
      refine wml_nil fun w hF _ => ?_
      have hs := hs.f hF
      refine hK52 _ _ ?_
      rcases cond_some H with ⟨c72, H⟩ | ⟨c72, H⟩
      · have hk := hk.lit 26 c72 rfl
        refine cnd_true hk rfl rfl ?_
        apply wp_seq_k; intro K73 hK73
        apply wp_region_lit
        refine sa _ rfl hk rfl rfl rfl fun a hk => ?_
        show wpList _ _ _ [] _ _
        refine wpList_nil ?_
        refine hK73 _ _ ?_
        refine wp_ret ?_
        obtain rfl := Option.some.inj H
        exact fin hk _ [(.bool false)] rfl ⟨rfl, trivial⟩ ⟨rfl, (hs.pick [] rfl).dnil⟩
      · have hk := hk.lit 26 c72 rfl
        refine cnd_false hk rfl rfl ?_
        refine wp_skip ?_
        refine hK51 _ _ ?_
        apply wp_seq_k; intro K74 hK74
        apply wp_region_lit
        refine sa _ rfl hk rfl rfl rfl fun a hk => ?_
        show wpList _ _ _ [] _ _
        refine wpList_nil ?_
        refine hK74 _ _ ?_
        refine wp_ret ?_
        obtain rfl := Option.some.inj H
        exact fin hk _ [(.bool true)] rfl ⟨rfl, trivial⟩ ⟨rfl, (hs.pick [] rfl).dnil⟩

end Go.Proofs.Ytmafglodgnbajaa
