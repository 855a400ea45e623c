/- Further functions. -/
import Derived.Test.YtmafglodgnbajaaGXStoreOK
namespace Go.Proofs.Ytmafglodgnbajaa
open Go Go.Z Go.Proofs Go.MuLone Go.ChangeShapes Go.WideShapes Go.ChangeAt Go.RowKit
set_option linter.unusedVariables false
set_option linter.unusedSimpArgs false
noncomputable def impl_DeviceOK_c1.f (x0 : S_Io) : Option (Bool) :=
  ((((impl_isSector.f x0.At).bind fun y10 => (bif y10 then ((impl_isContent.f x0.Data).bind fun y13 => (some y13)) else (some false))) : Option (Bool)).bind fun u5 => (some u5))
set_option maxRecDepth 100000 in
set_option maxHeartbeats 0 in
theorem impl_DeviceOK_c1_t (w0 : World) (x0 : S_Io) (r : Bool) (H : impl_DeviceOK_c1.f x0 = some r) :
    Calls Try.prog 117 #[.agg #[.int .i64 x0.At, .string x0.Data]] w0 (Ret (fun v w => v = .bool r ∧ Sat [] w0 w [] [])) := by
  have hs : Sat [] w0 w0 [] [] := Sat.init w0 [] [] (by simp) (by simp) List.nodup_nil (by simp [blks])
  unfold impl_DeviceOK_c1.f at H
  refine enter Try.func117 rfl Try.ntmps117 rfl fun a hk => ?_
  apply wp_seq_k; intro K1 hK1
  apply wp_region_lit
  refine sbx 1 hs rfl hk rfl rfl rfl rfl fun b2 w a hk hs => ?_
  refine sa _ rfl hk rfl rfl rfl fun a hk => ?_
  show wpList _ _ _ [] _ _
  refine wpList_nil ?_
  refine hK1 _ _ ?_
  apply wp_seq_k; intro K3 hK3
  obtain ⟨o6, h7, HL8⟩ := bind_some H
  clear H
  obtain ⟨R9, hR9⟩ : ∃ R : Act → World → Prop, R = fun a w => ∃ (u5 : Bool), u5 = o6 ∧ Kn [(2, (.bool u5))] 11 a ∧ Sat [] w0 w [] [] := ⟨_, rfl⟩
  refine wp_cutq R9 ?_ ?_
  · have H := h7
    apply wp_region_lit
    refine sf ⟨b2, 0, none⟩ rfl hk rfl rfl rfl fd114_0 rfl fun a hk => ?_
    refine sl rfl hk rfl rfl rfl ag3 (box_cell hs (k := 1) rfl rfl) fun a hk => ?_
    obtain ⟨y10, h11, H⟩ := bind_some H
    refine sc rfl en64 hk rfl rfl rfl (impl_isSector_t _ x0.At _ h11) ?_
    rintro _ w ⟨rfl, hG⟩ a hk
    have hs := hs.call0 hG
    refine sm _ rfl hk rfl rfl rfl fun a hk => ?_
    rcases cond_some H with ⟨c12, H⟩ | ⟨c12, H⟩
    · have hk := hk.lit 6 c12 rfl
      refine sf ⟨b2, 1, none⟩ rfl hk rfl rfl rfl fd114_1 rfl fun a hk => ?_
      refine sl rfl hk rfl rfl rfl ag9 (box_cell hs (k := 1) rfl rfl) fun a hk => ?_
      obtain ⟨y13, h14, H⟩ := bind_some H
      refine sc rfl en89 hk rfl rfl rfl (impl_isContent_t _ x0.Data _ h14) ?_
      rintro _ w ⟨rfl, hG⟩ a hk
      have hs := hs.call0 hG
      refine sv (.bool y13) hk rfl rfl rfl fun a hk => ?_
      refine sa _ rfl hk rfl rfl rfl fun a hk => ?_
      show wpList _ _ _ [] _ _
      refine wpList_nil ?_
      obtain rfl := Option.some.inj H
      show R9 _ _
      rw [hR9]
      exact ⟨y13, rfl, (hk.c 2 rfl hk.k), (hs.pick [] rfl)⟩
    · have hk := hk.lit 6 c12 rfl
      refine sk hk rfl rfl rfl fun a hk => ?_
      refine sk hk rfl rfl rfl fun a hk => ?_
      refine sk hk rfl rfl rfl fun a hk => ?_
      refine sv (.bool false) hk rfl rfl rfl fun a hk => ?_
      refine sa _ rfl hk rfl rfl rfl fun a hk => ?_
      show wpList _ _ _ [] _ _
      refine wpList_nil ?_
      obtain rfl := Option.some.inj H
      show R9 _ _
      rw [hR9]
      exact ⟨false, rfl, (hk.c 2 rfl hk.k), (hs.pick [] rfl)⟩
  · intro a w hR0
    rw [hR9] at hR0
    obtain ⟨u5, rfl, hk, hs⟩ := hR0
    have H := HL8
    try dsimp only at H
    refine hK3 _ _ ?_
    refine wp_ret ?_
    obtain rfl := Option.some.inj H
    exact fin hk _ [(.bool u5)] rfl ⟨rfl, trivial⟩ ⟨rfl, (hs.pick [] rfl).dnil⟩

noncomputable def impl_DeviceOK.f (x0 : S_Device) : Option (Bool) :=
  (((bif ((x0.Sure.length : Int) == 40) then ((impl_areAll_string.f x0.Sure impl_isContent.f).bind fun y11 => (bif y11 then (bif (decide ((x0.Unsure.length : Int) ≤ 60)) then ((impl_areAll_impl_Io.f x0.Unsure impl_DeviceOK_c1.f).bind fun y15 => (some y15)) else (some false)) else (some false))) else (some false)) : Option (Bool)).bind fun u5 => (some u5))
set_option maxRecDepth 100000 in
set_option maxHeartbeats 0 in
theorem impl_DeviceOK_t (w0 : World) (x0 : S_Device) (A0_0 : Option Addr) (p0_0 : Nat) (k0_0 : Chunk) (v0_0 : View Lay.str A0_0 p0_0 x0.Sure k0_0) (w0_0 : Has w0 k0_0) (A0_1 : Option Addr) (p0_1 : Nat) (k0_1 : Chunk) (v0_1 : View L_Io A0_1 p0_1 x0.Unsure k0_1) (w0_1 : Has w0 k0_1) (r : Bool) (H : impl_DeviceOK.f x0 = some r) :
    Calls Try.prog 79 #[.agg #[.slice A0_0 x0.Sure.length p0_0, .slice A0_1 x0.Unsure.length p0_1]] w0 (Ret (fun v w => v = .bool r ∧ Sat [] w0 w [] [])) := by
  have hs : Sat [] w0 w0 [(1, k0_0), (2, k0_1)] [] := Sat.init w0 [(1, k0_0), (2, k0_1)] [] (by simp only [List.mem_cons, List.not_mem_nil, or_false]; rintro x (rfl | rfl) <;> assumption) (by simp) List.nodup_nil (by simp [blks])
  unfold impl_DeviceOK.f at H
  refine enter Try.func79 rfl Try.ntmps79 rfl fun a hk => ?_
  apply wp_seq_k; intro K1 hK1
  apply wp_region_lit
  refine sbx 3 hs rfl hk rfl rfl rfl rfl fun b2 w a hk hs => ?_
  refine sa _ rfl hk rfl rfl rfl fun a hk => ?_
  show wpList _ _ _ [] _ _
  refine wpList_nil ?_
  refine hK1 _ _ ?_
  apply wp_seq_k; intro K3 hK3
  obtain ⟨o6, h7, HL8⟩ := bind_some H
  clear H
  obtain ⟨R9, hR9⟩ : ∃ R : Act → World → Prop, R = fun a w => ∃ (u5 : Bool), u5 = o6 ∧ Kn [(2, (.bool u5))] 23 a ∧ Sat [] w0 w [(1, k0_0), (2, k0_1)] [] := ⟨_, rfl⟩
  refine wp_cutq R9 ?_ ?_
  · have H := h7
    apply wp_region_lit
    refine sf ⟨b2, 0, none⟩ rfl hk rfl rfl rfl fd35_0 rfl fun a hk => ?_
    refine sl rfl hk rfl rfl rfl ag24 (box_cell hs (k := 3) rfl rfl) fun a hk => ?_
    refine sle rfl hk rfl rfl rfl un24 fun a hk => ?_
    refine sv (.bool ((x0.Sure.length : Int) == 40)) hk rfl rfl rfl fun a hk => ?_
    refine sm _ rfl hk rfl rfl rfl fun a hk => ?_
    rcases cond_some H with ⟨c10, H⟩ | ⟨c10, H⟩
    · have hk := hk.lit 7 c10 rfl
      refine sf ⟨b2, 0, none⟩ rfl hk rfl rfl rfl fd35_0 rfl fun a hk => ?_
      refine sl rfl hk rfl rfl rfl ag24 (box_cell hs (k := 3) rfl rfl) fun a hk => ?_
      obtain ⟨y11, h12, H⟩ := bind_some H
      refine sc rfl en115 hk rfl rfl rfl (impl_areAll_string_t _ A0_0 p0_0 x0.Sure _ v0_0 (hs.hasD (k := 1) rfl) 89 [] en89 impl_isContent.f [] (fun w _ z0 r h => impl_isContent_t w z0 r h) (Has.nil _) _ h12) ?_
      rintro _ w ⟨rfl, hG⟩ a hk
      have hs := hs.call0 hG
      refine sv (.bool y11) hk rfl rfl rfl fun a hk => ?_
      refine sm _ rfl hk rfl rfl rfl fun a hk => ?_
      rcases cond_some H with ⟨c13, H⟩ | ⟨c13, H⟩
      · have hk := hk.lit 12 c13 rfl
        refine sf ⟨b2, 1, none⟩ rfl hk rfl rfl rfl fd35_1 rfl fun a hk => ?_
        refine sl rfl hk rfl rfl rfl ag33 (box_cell hs (k := 3) rfl rfl) fun a hk => ?_
        refine sle rfl hk rfl rfl rfl un33 fun a hk => ?_
        refine sv (.bool (decide ((x0.Unsure.length : Int) ≤ 60))) hk rfl rfl rfl fun a hk => ?_
        refine sv (.bool (decide ((x0.Unsure.length : Int) ≤ 60))) hk rfl rfl rfl fun a hk => ?_
        refine sm _ rfl hk rfl rfl rfl fun a hk => ?_
        rcases cond_some H with ⟨c14, H⟩ | ⟨c14, H⟩
        · have hk := hk.lit 18 c14 rfl
          refine sf ⟨b2, 1, none⟩ rfl hk rfl rfl rfl fd35_1 rfl fun a hk => ?_
          refine sl rfl hk rfl rfl rfl ag33 (box_cell hs (k := 3) rfl rfl) fun a hk => ?_
          obtain ⟨y15, h16, H⟩ := bind_some H
          refine sc rfl en116 hk rfl rfl rfl (impl_areAll_impl_Io_t _ A0_1 p0_1 x0.Unsure _ v0_1 (hs.hasD (k := 2) rfl) 117 [] en117 impl_DeviceOK_c1.f [] (fun w _ z0 r h => impl_DeviceOK_c1_t w z0 r h) (Has.nil _) _ h16) ?_
          rintro _ w ⟨rfl, hG⟩ a hk
          have hs := hs.call0 hG
          refine sv (.bool y15) hk rfl rfl rfl fun a hk => ?_
          refine sa _ rfl hk rfl rfl rfl fun a hk => ?_
          show wpList _ _ _ [] _ _
          refine wpList_nil ?_
          obtain rfl := Option.some.inj H
          show R9 _ _
          rw [hR9]
          exact ⟨y15, rfl, (hk.c 2 rfl hk.k), (hs.pick [] rfl)⟩
        · have hk := hk.lit 18 c14 rfl
          refine sk hk rfl rfl rfl fun a hk => ?_
          refine sk hk rfl rfl rfl fun a hk => ?_
          refine sk hk rfl rfl rfl fun a hk => ?_
          refine sv (.bool false) hk rfl rfl rfl fun a hk => ?_
          refine sa _ rfl hk rfl rfl rfl fun a hk => ?_
          show wpList _ _ _ [] _ _
          refine wpList_nil ?_
          obtain rfl := Option.some.inj H
          show R9 _ _
          rw [hR9]
          exact ⟨false, rfl, (hk.c 2 rfl hk.k), (hs.pick [] rfl)⟩
      · have hk := hk.lit 12 c13 rfl
        refine sk hk rfl rfl rfl fun a hk => ?_
        refine sk hk rfl rfl rfl fun a hk => ?_
        refine sk hk rfl rfl rfl fun a hk => ?_
        refine sk hk rfl rfl rfl fun a hk => ?_
        refine sv (.bool false) hk rfl rfl rfl fun a hk => ?_
        refine sm _ rfl hk rfl rfl rfl fun a hk => ?_
        refine sk hk rfl rfl rfl fun a hk => ?_
        refine sk hk rfl rfl rfl fun a hk => ?_
        refine sk hk rfl rfl rfl fun a hk => ?_
        refine sv (.bool false) hk rfl rfl rfl fun a hk => ?_
        refine sa _ rfl hk rfl rfl rfl fun a hk => ?_
        show wpList _ _ _ [] _ _
        refine wpList_nil ?_
        obtain rfl := Option.some.inj H
        show R9 _ _
        rw [hR9]
        exact ⟨false, rfl, (hk.c 2 rfl hk.k), (hs.pick [] rfl)⟩
    · have hk := hk.lit 7 c10 rfl
      refine sk hk rfl rfl rfl fun a hk => ?_
      refine sk hk rfl rfl rfl fun a hk => ?_
      refine sk hk rfl rfl rfl fun a hk => ?_
      refine sv (.bool false) hk rfl rfl rfl fun a hk => ?_
      refine sm _ rfl hk rfl rfl rfl fun a hk => ?_
      refine sk hk rfl rfl rfl fun a hk => ?_
      refine sk hk rfl rfl rfl fun a hk => ?_
      refine sk hk rfl rfl rfl fun a hk => ?_
      refine sk hk rfl rfl rfl fun a hk => ?_
      refine sv (.bool false) hk rfl rfl rfl fun a hk => ?_
      refine sm _ rfl hk rfl rfl rfl fun a hk => ?_
      refine sk hk rfl rfl rfl fun a hk => ?_
      refine sk hk rfl rfl rfl fun a hk => ?_
      refine sk hk rfl rfl rfl fun a hk => ?_
      refine sv (.bool false) hk rfl rfl rfl fun a hk => ?_
      refine sa _ rfl hk rfl rfl rfl fun a hk => ?_
      show wpList _ _ _ [] _ _
      refine wpList_nil ?_
      obtain rfl := Option.some.inj H
      show R9 _ _
      rw [hR9]
      exact ⟨false, rfl, (hk.c 2 rfl hk.k), (hs.pick [] rfl)⟩
  · intro a w hR0
    rw [hR9] at hR0
    obtain ⟨u5, rfl, hk, hs⟩ := hR0
    have H := HL8
    try dsimp only at H
    refine hK3 _ _ ?_
    refine wp_ret ?_
    obtain rfl := Option.some.inj H
    exact fin hk _ [(.bool u5)] rfl ⟨rfl, trivial⟩ ⟨rfl, (hs.pick [] rfl).dnil⟩

noncomputable def impl_isSure.f (x0 : S_Device) : Option (Bool) :=
  ((((impl_DeviceOK.f x0).bind fun y10 => (bif y10 then (some ((x0.Unsure.length : Int) == 0)) else (some false))) : Option (Bool)).bind fun u5 => (some u5))
set_option maxRecDepth 100000 in
set_option maxHeartbeats 0 in
theorem impl_isSure_t (w0 : World) (x0 : S_Device) (A0_0 : Option Addr) (p0_0 : Nat) (k0_0 : Chunk) (v0_0 : View Lay.str A0_0 p0_0 x0.Sure k0_0) (w0_0 : Has w0 k0_0) (A0_1 : Option Addr) (p0_1 : Nat) (k0_1 : Chunk) (v0_1 : View L_Io A0_1 p0_1 x0.Unsure k0_1) (w0_1 : Has w0 k0_1) (r : Bool) (H : impl_isSure.f x0 = some r) :
    Calls Try.prog 51 #[.agg #[.slice A0_0 x0.Sure.length p0_0, .slice A0_1 x0.Unsure.length p0_1]] w0 (Ret (fun v w => v = .bool r ∧ Sat [] w0 w [] [])) := by
  have hs : Sat [] w0 w0 [(1, k0_0), (2, k0_1)] [] := Sat.init w0 [(1, k0_0), (2, k0_1)] [] (by simp only [List.mem_cons, List.not_mem_nil, or_false]; rintro x (rfl | rfl) <;> assumption) (by simp) List.nodup_nil (by simp [blks])
  unfold impl_isSure.f at H
  refine enter Try.func51 rfl Try.ntmps51 rfl fun a hk => ?_
  apply wp_seq_k; intro K1 hK1
  apply wp_region_lit
  refine sbx 3 hs rfl hk rfl rfl rfl rfl fun b2 w a hk hs => ?_
  refine sa _ rfl hk rfl rfl rfl fun a hk => ?_
  show wpList _ _ _ [] _ _
  refine wpList_nil ?_
  refine hK1 _ _ ?_
  apply wp_seq_k; intro K3 hK3
  obtain ⟨o6, h7, HL8⟩ := bind_some H
  clear H
  obtain ⟨R9, hR9⟩ : ∃ R : Act → World → Prop, R = fun a w => ∃ (u5 : Bool), u5 = o6 ∧ Kn [(2, (.bool u5))] 11 a ∧ Sat [] w0 w [(1, k0_0), (2, k0_1)] [] := ⟨_, rfl⟩
  refine wp_cutq R9 ?_ ?_
  · have H := h7
    apply wp_region_lit
    refine sln [.slice A0_0 x0.Sure.length p0_0, .slice A0_1 x0.Unsure.length p0_1] rfl hk rfl rfl rfl ag35 sz35 (box_cells hs (k := 3) rfl) fun a hk => ?_
    obtain ⟨y10, h11, H⟩ := bind_some H
    refine sc rfl en79 hk rfl rfl rfl (impl_DeviceOK_t _ x0 A0_0 p0_0 _ v0_0 (hs.hasD (k := 1) rfl) A0_1 p0_1 _ v0_1 (hs.hasD (k := 2) rfl) _ h11) ?_
    rintro _ w ⟨rfl, hG⟩ a hk
    have hs := hs.call0 hG
    refine sm _ rfl hk rfl rfl rfl fun a hk => ?_
    rcases cond_some H with ⟨c12, H⟩ | ⟨c12, H⟩
    · have hk := hk.lit 5 c12 rfl
      refine sf ⟨b2, 1, none⟩ rfl hk rfl rfl rfl fd35_1 rfl fun a hk => ?_
      refine sl rfl hk rfl rfl rfl ag33 (box_cell hs (k := 3) rfl rfl) fun a hk => ?_
      refine sle rfl hk rfl rfl rfl un33 fun a hk => ?_
      refine sv (.bool ((x0.Unsure.length : Int) == 0)) hk rfl rfl rfl fun a hk => ?_
      refine sv (.bool ((x0.Unsure.length : Int) == 0)) hk rfl rfl rfl fun a hk => ?_
      refine sa _ rfl hk rfl rfl rfl fun a hk => ?_
      show wpList _ _ _ [] _ _
      refine wpList_nil ?_
      obtain rfl := Option.some.inj H
      show R9 _ _
      rw [hR9]
      exact ⟨((x0.Unsure.length : Int) == 0), rfl, (hk.c 2 rfl hk.k), (hs.pick [] rfl)⟩
    · have hk := hk.lit 5 c12 rfl
      refine sk hk rfl rfl rfl fun a hk => ?_
      refine sk hk rfl rfl rfl fun a hk => ?_
      refine sk hk rfl rfl rfl fun a hk => ?_
      refine sk hk rfl rfl rfl fun a hk => ?_
      refine sv (.bool false) hk rfl rfl rfl fun a hk => ?_
      refine sa _ rfl hk rfl rfl rfl fun a hk => ?_
      show wpList _ _ _ [] _ _
      refine wpList_nil ?_
      obtain rfl := Option.some.inj H
      show R9 _ _
      rw [hR9]
      exact ⟨false, rfl, (hk.c 2 rfl hk.k), (hs.pick [] rfl)⟩
  · intro a w hR0
    rw [hR9] at hR0
    obtain ⟨u5, rfl, hk, hs⟩ := hR0
    have H := HL8
    try dsimp only at H
    refine hK3 _ _ ?_
    refine wp_ret ?_
    obtain rfl := Option.some.inj H
    exact fin hk _ [(.bool u5)] rfl ⟨rfl, trivial⟩ ⟨rfl, (hs.pick [] rfl).dnil⟩

noncomputable def impl_StoreOK.f (x0 : S_Store) : Option (Bool) :=
  (((bif ((x0.Key.size : Int) == 32) then ((impl_RegisterOK.f x0.Reg).bind fun y11 => (bif y11 then ((impl_isSure.f x0.Device).bind fun y14 => (bif y14 then (bif x0.Up then (some (!x0.Dead)) else (some true)) else (some false))) else (some false))) else (some false)) : Option (Bool)).bind fun u5 => (some u5))
set_option maxRecDepth 100000 in
set_option maxHeartbeats 0 in
theorem impl_StoreOK_t (w0 : World) (x0 : S_Store) (A0_0 : Option Addr) (p0_0 : Nat) (k0_0 : Chunk) (v0_0 : View Lay.str A0_0 p0_0 x0.Device.Sure k0_0) (w0_0 : Has w0 k0_0) (A0_1 : Option Addr) (p0_1 : Nat) (k0_1 : Chunk) (v0_1 : View L_Io A0_1 p0_1 x0.Device.Unsure k0_1) (w0_1 : Has w0 k0_1) (r : Bool) (H : impl_StoreOK.f x0 = some r) :
    Calls Try.prog 17 #[.agg #[.string x0.Key, .int .i64 x0.Reg.Epoch, .int .i64 x0.Reg.Side, .int .i64 x0.Reg.Count, .int .i64 x0.Reg.Boot, .string x0.Reg.Base, .string x0.Reg.Tip, .string x0.Reg.Root, .slice A0_0 x0.Device.Sure.length p0_0, .slice A0_1 x0.Device.Unsure.length p0_1, .bool x0.Up, .bool x0.Dead]] w0 (Ret (fun v w => v = .bool r ∧ Sat [] w0 w [] [])) := by
  have hs : Sat [] w0 w0 [(1, k0_0), (2, k0_1)] [] := Sat.init w0 [(1, k0_0), (2, k0_1)] [] (by simp only [List.mem_cons, List.not_mem_nil, or_false]; rintro x (rfl | rfl) <;> assumption) (by simp) List.nodup_nil (by simp [blks])
  unfold impl_StoreOK.f at H
  refine enter Try.func17 rfl Try.ntmps17 rfl fun a hk => ?_
  apply wp_seq_k; intro K1 hK1
  apply wp_region_lit
  refine sbx 3 hs rfl hk rfl rfl rfl rfl fun b2 w a hk hs => ?_
  refine sa _ rfl hk rfl rfl rfl fun a hk => ?_
  show wpList _ _ _ [] _ _
  refine wpList_nil ?_
  refine hK1 _ _ ?_
  apply wp_seq_k; intro K3 hK3
  obtain ⟨o6, h7, HL8⟩ := bind_some H
  clear H
  obtain ⟨R9, hR9⟩ : ∃ R : Act → World → Prop, R = fun a w => ∃ (u5 : Bool), u5 = o6 ∧ Kn [(2, (.bool u5))] 26 a ∧ Sat [] w0 w [(1, k0_0), (2, k0_1)] [] := ⟨_, rfl⟩
  refine wp_cutq R9 ?_ ?_
  · have H := h7
    apply wp_region_lit
    refine sf ⟨b2, 0, none⟩ rfl hk rfl rfl rfl fd37_0 rfl fun a hk => ?_
    refine sl rfl hk rfl rfl rfl ag9 (box_cell hs (k := 3) rfl rfl) fun a hk => ?_
    refine sles rfl hk rfl rfl rfl un9 fun a hk => ?_
    refine sv (.bool ((x0.Key.size : Int) == 32)) hk rfl rfl rfl fun a hk => ?_
    refine sm _ rfl hk rfl rfl rfl fun a hk => ?_
    rcases cond_some H with ⟨c10, H⟩ | ⟨c10, H⟩
    · have hk := hk.lit 7 c10 rfl
      refine sf ⟨b2, 1, none⟩ rfl hk rfl rfl rfl fd37_1 rfl fun a hk => ?_
      refine sln [.int .i64 x0.Reg.Epoch, .int .i64 x0.Reg.Side, .int .i64 x0.Reg.Count, .int .i64 x0.Reg.Boot, .string x0.Reg.Base, .string x0.Reg.Tip, .string x0.Reg.Root] rfl hk rfl rfl rfl ag32 sz32 (box_part hs (k := 3) rfl rfl) fun a hk => ?_
      obtain ⟨y11, h12, H⟩ := bind_some H
      refine sc rfl en50 hk rfl rfl rfl (impl_RegisterOK_t _ x0.Reg _ h12) ?_
      rintro _ w ⟨rfl, hG⟩ a hk
      have hs := hs.call0 hG
      refine sv (.bool y11) hk rfl rfl rfl fun a hk => ?_
      refine sm _ rfl hk rfl rfl rfl fun a hk => ?_
      rcases cond_some H with ⟨c13, H⟩ | ⟨c13, H⟩
      · have hk := hk.lit 12 c13 rfl
        refine sf ⟨b2, 8, none⟩ rfl hk rfl rfl rfl fd37_2 rfl fun a hk => ?_
        refine sln [.slice A0_0 x0.Device.Sure.length p0_0, .slice A0_1 x0.Device.Unsure.length p0_1] rfl hk rfl rfl rfl ag35 sz35 (box_part hs (k := 3) rfl rfl) fun a hk => ?_
        obtain ⟨y14, h15, H⟩ := bind_some H
        refine sc rfl en51 hk rfl rfl rfl (impl_isSure_t _ x0.Device A0_0 p0_0 _ v0_0 (hs.hasD (k := 1) rfl) A0_1 p0_1 _ v0_1 (hs.hasD (k := 2) rfl) _ h15) ?_
        rintro _ w ⟨rfl, hG⟩ a hk
        have hs := hs.call0 hG
        refine sv (.bool y14) hk rfl rfl rfl fun a hk => ?_
        refine sm _ rfl hk rfl rfl rfl fun a hk => ?_
        rcases cond_some H with ⟨c16, H⟩ | ⟨c16, H⟩
        · have hk := hk.lit 17 c16 rfl
          refine sf ⟨b2, 10, none⟩ rfl hk rfl rfl rfl fd37_3 rfl fun a hk => ?_
          refine sl rfl hk rfl rfl rfl ag4 (box_cell hs (k := 3) rfl rfl) fun a hk => ?_
          refine sm _ rfl hk rfl rfl rfl fun a hk => ?_
          rcases cond_some H with ⟨c17, H⟩ | ⟨c17, H⟩
          · have hk := hk.lit 20 c17 rfl
            refine sf ⟨b2, 11, none⟩ rfl hk rfl rfl rfl fd37_4 rfl fun a hk => ?_
            refine sl rfl hk rfl rfl rfl ag4 (box_cell hs (k := 3) rfl rfl) fun a hk => ?_
            refine sv (.bool x0.Dead) hk rfl rfl rfl fun a hk => ?_
            refine sv (.bool (!x0.Dead)) hk rfl rfl rfl fun a hk => ?_
            refine sv (.bool (!x0.Dead)) hk rfl rfl rfl fun a hk => ?_
            refine sa _ rfl hk rfl rfl rfl fun a hk => ?_
            show wpList _ _ _ [] _ _
            refine wpList_nil ?_
            obtain rfl := Option.some.inj H
            show R9 _ _
            rw [hR9]
            exact ⟨(!x0.Dead), rfl, (hk.c 2 rfl hk.k), (hs.pick [] rfl)⟩
          · have hk := hk.lit 20 c17 rfl
            refine sk hk rfl rfl rfl fun a hk => ?_
            refine sk hk rfl rfl rfl fun a hk => ?_
            refine sv (.bool false) hk rfl rfl rfl fun a hk => ?_
            refine sv (.bool true) hk rfl rfl rfl fun a hk => ?_
            refine sv (.bool true) hk rfl rfl rfl fun a hk => ?_
            refine sa _ rfl hk rfl rfl rfl fun a hk => ?_
            show wpList _ _ _ [] _ _
            refine wpList_nil ?_
            obtain rfl := Option.some.inj H
            show R9 _ _
            rw [hR9]
            exact ⟨true, rfl, (hk.c 2 rfl hk.k), (hs.pick [] rfl)⟩
        · have hk := hk.lit 17 c16 rfl
          refine sk hk rfl rfl rfl fun a hk => ?_
          refine sk hk rfl rfl rfl fun a hk => ?_
          refine sk hk rfl rfl rfl fun a hk => ?_
          refine sk hk rfl rfl rfl fun a hk => ?_
          refine sk hk rfl rfl rfl fun a hk => ?_
          refine sk hk rfl rfl rfl fun a hk => ?_
          refine sk hk rfl rfl rfl fun a hk => ?_
          refine sv (.bool false) hk rfl rfl rfl fun a hk => ?_
          refine sa _ rfl hk rfl rfl rfl fun a hk => ?_
          show wpList _ _ _ [] _ _
          refine wpList_nil ?_
          obtain rfl := Option.some.inj H
          show R9 _ _
          rw [hR9]
          exact ⟨false, rfl, (hk.c 2 rfl hk.k), (hs.pick [] rfl)⟩
      · have hk := hk.lit 12 c13 rfl
        refine sk hk rfl rfl rfl fun a hk => ?_
        refine sk hk rfl rfl rfl fun a hk => ?_
        refine sk hk rfl rfl rfl fun a hk => ?_
        refine sv (.bool false) hk rfl rfl rfl fun a hk => ?_
        refine sm _ rfl hk rfl rfl rfl fun a hk => ?_
        refine sk hk rfl rfl rfl fun a hk => ?_
        refine sk hk rfl rfl rfl fun a hk => ?_
        refine sk hk rfl rfl rfl fun a hk => ?_
        refine sk hk rfl rfl rfl fun a hk => ?_
        refine sk hk rfl rfl rfl fun a hk => ?_
        refine sk hk rfl rfl rfl fun a hk => ?_
        refine sk hk rfl rfl rfl fun a hk => ?_
        refine sv (.bool false) hk rfl rfl rfl fun a hk => ?_
        refine sa _ rfl hk rfl rfl rfl fun a hk => ?_
        show wpList _ _ _ [] _ _
        refine wpList_nil ?_
        obtain rfl := Option.some.inj H
        show R9 _ _
        rw [hR9]
        exact ⟨false, rfl, (hk.c 2 rfl hk.k), (hs.pick [] rfl)⟩
    · have hk := hk.lit 7 c10 rfl
      refine sk hk rfl rfl rfl fun a hk => ?_
      refine sk hk rfl rfl rfl fun a hk => ?_
      refine sk hk rfl rfl rfl fun a hk => ?_
      refine sv (.bool false) hk rfl rfl rfl fun a hk => ?_
      refine sm _ rfl hk rfl rfl rfl fun a hk => ?_
      refine sk hk rfl rfl rfl fun a hk => ?_
      refine sk hk rfl rfl rfl fun a hk => ?_
      refine sk hk rfl rfl rfl fun a hk => ?_
      refine sv (.bool false) hk rfl rfl rfl fun a hk => ?_
      refine sm _ rfl hk rfl rfl rfl fun a hk => ?_
      refine sk hk rfl rfl rfl fun a hk => ?_
      refine sk hk rfl rfl rfl fun a hk => ?_
      refine sk hk rfl rfl rfl fun a hk => ?_
      refine sk hk rfl rfl rfl fun a hk => ?_
      refine sk hk rfl rfl rfl fun a hk => ?_
      refine sk hk rfl rfl rfl fun a hk => ?_
      refine sk hk rfl rfl rfl fun a hk => ?_
      refine sv (.bool false) hk rfl rfl rfl fun a hk => ?_
      refine sa _ rfl hk rfl rfl rfl fun a hk => ?_
      show wpList _ _ _ [] _ _
      refine wpList_nil ?_
      obtain rfl := Option.some.inj H
      show R9 _ _
      rw [hR9]
      exact ⟨false, rfl, (hk.c 2 rfl hk.k), (hs.pick [] rfl)⟩
  · intro a w hR0
    rw [hR9] at hR0
    obtain ⟨u5, rfl, hk, hs⟩ := hR0
    have H := HL8
    try dsimp only at H
    refine hK3 _ _ ?_
    refine wp_ret ?_
    obtain rfl := Option.some.inj H
    exact fin hk _ [(.bool u5)] rfl ⟨rfl, trivial⟩ ⟨rfl, (hs.pick [] rfl).dnil⟩

noncomputable def laws_FnExactStoreOK.f (x0 : S_Store) : Option (Bool) :=
  ((laws_szStore.f x0 1048576).bind fun y5 => (bif (decide (y5 < 0)) then (some true) else ((laws_toStore.f x0).bind fun y12 => ((spec_StoreOK.f y12).bind fun y22 => ((laws_toStore.f x0).bind fun y25 => ((impl_StoreOK.f y25).bind fun y37 => (bif (!(y37 == y22)) then (some false) else ((laws_toStore.f x0).bind fun y46 => ((laws_eqStore.f y25 y46).bind fun y56 => (bif (!y56) then (some false) else (some true)))))))))))
set_option maxRecDepth 100000 in
set_option maxHeartbeats 0 in
theorem laws_FnExactStoreOK_t (w0 : World) (x0 : S_Store) (A0_0 : Option Addr) (p0_0 : Nat) (k0_0 : Chunk) (v0_0 : View Lay.str A0_0 p0_0 x0.Device.Sure k0_0) (w0_0 : Has w0 k0_0) (A0_1 : Option Addr) (p0_1 : Nat) (k0_1 : Chunk) (v0_1 : View L_Io A0_1 p0_1 x0.Device.Unsure k0_1) (w0_1 : Has w0 k0_1) (r : Bool) (H : laws_FnExactStoreOK.f x0 = some r) :
    Calls Try.prog 4 #[.agg #[.string x0.Key, .int .i64 x0.Reg.Epoch, .int .i64 x0.Reg.Side, .int .i64 x0.Reg.Count, .int .i64 x0.Reg.Boot, .string x0.Reg.Base, .string x0.Reg.Tip, .string x0.Reg.Root, .slice A0_0 x0.Device.Sure.length p0_0, .slice A0_1 x0.Device.Unsure.length p0_1, .bool x0.Up, .bool x0.Dead]] w0 (Ret (fun v w => v = .bool r ∧ Sat [] w0 w [] [])) := by
  have hs : Sat [] w0 w0 [(1, k0_0), (2, k0_1)] [] := Sat.init w0 [(1, k0_0), (2, k0_1)] [] (by simp only [List.mem_cons, List.not_mem_nil, or_false]; rintro x (rfl | rfl) <;> assumption) (by simp) List.nodup_nil (by simp [blks])
  unfold laws_FnExactStoreOK.f at H
  refine enter Try.func4 rfl Try.ntmps4 rfl fun a hk => ?_
  apply wp_seq_k; intro K1 hK1
  apply wp_region_lit
  refine sbx 3 hs rfl hk rfl rfl rfl rfl fun b2 w a hk hs => ?_
  refine sa _ rfl hk rfl rfl rfl fun a hk => ?_
  show wpList _ _ _ [] _ _
  refine wpList_nil ?_
  refine hK1 _ _ ?_
  apply wp_seq_k; intro K3 hK3
  apply wp_region_lit
  refine sa _ rfl hk rfl rfl rfl fun a hk => ?_
  show wpList _ _ _ [] _ _
  refine wpList_nil ?_
  refine hK3 _ _ ?_
  apply wp_seq_k; intro K4 hK4
  apply wp_region_lit
  refine sln [.string x0.Key, .int .i64 x0.Reg.Epoch, .int .i64 x0.Reg.Side, .int .i64 x0.Reg.Count, .int .i64 x0.Reg.Boot, .string x0.Reg.Base, .string x0.Reg.Tip, .string x0.Reg.Root, .slice A0_0 x0.Device.Sure.length p0_0, .slice A0_1 x0.Device.Unsure.length p0_1, .bool x0.Up, .bool x0.Dead] rfl hk rfl rfl rfl ag29 sz29 (box_cells hs (k := 3) rfl) fun a hk => ?_
  refine sm _ rfl hk rfl rfl rfl fun a hk => ?_
  obtain ⟨y5, h6, H⟩ := bind_some H
  refine sc rfl en11 hk rfl rfl rfl (laws_szStore_t _ x0 A0_0 p0_0 _ v0_0 (hs.hasD (k := 1) rfl) A0_1 p0_1 _ v0_1 (hs.hasD (k := 2) rfl) 1048576 _ h6) ?_
  rintro _ w ⟨rfl, hG⟩ a hk
  have hs := hs.call0 hG
  refine sa _ rfl hk rfl rfl rfl fun a hk => ?_
  show wpList _ _ _ [] _ _
  refine wpList_nil ?_
  refine hK4 _ _ ?_
  apply wp_seq_k; intro K7 hK7
  apply wp_seq_k; intro K8 hK8
  apply wp_region_lit
  refine sm _ rfl hk rfl rfl rfl fun a hk => ?_
  refine sv (.bool (decide (y5 < 0))) hk rfl rfl rfl fun a hk => ?_
  show wpList _ _ _ [] _ _
  refine wpList_nil ?_
  refine hK8 _ _ ?_
  rcases cond_some H with ⟨c9, H⟩ | ⟨c9, H⟩
  · have hk := hk.lit 11 c9 rfl
    refine cnd_true hk rfl rfl ?_
    apply wp_seq_k; intro K10 hK10
    apply wp_region_lit
    refine sa _ rfl hk rfl rfl rfl fun a hk => ?_
    show wpList _ _ _ [] _ _
    refine wpList_nil ?_
    refine hK10 _ _ ?_
    refine wp_ret ?_
    obtain rfl := Option.some.inj H
    exact fin hk _ [(.bool true)] rfl ⟨rfl, trivial⟩ ⟨rfl, (hs.pick [] rfl).dnil⟩
  · have hk := hk.lit 11 c9 rfl
    refine cnd_false hk rfl rfl ?_
    refine wp_skip ?_
    refine hK7 _ _ ?_
    apply wp_seq_k; intro K11 hK11
    apply wp_region_lit
    refine sln [.string x0.Key, .int .i64 x0.Reg.Epoch, .int .i64 x0.Reg.Side, .int .i64 x0.Reg.Count, .int .i64 x0.Reg.Boot, .string x0.Reg.Base, .string x0.Reg.Tip, .string x0.Reg.Root, .slice A0_0 x0.Device.Sure.length p0_0, .slice A0_1 x0.Device.Unsure.length p0_1, .bool x0.Up, .bool x0.Dead] rfl hk rfl rfl rfl ag29 sz29 (box_cells hs (k := 3) rfl) fun a hk => ?_
    obtain ⟨y12, h13, H⟩ := bind_some H
    refine sc rfl en13 hk rfl rfl rfl (laws_toStore_t _ x0 A0_0 p0_0 _ v0_0 (hs.hasD (k := 1) rfl) A0_1 p0_1 _ v0_1 (hs.hasD (k := 2) rfl) _ h13) ?_
    rintro _ w ⟨A14, p15, k16, A18, p19, k20, rfl, o17, o21, hG⟩ a hk
    have hs := hs.call0k hG [4, 5] rfl
    obtain ⟨y22, h23, H⟩ := bind_some H
    refine sc rfl en16 hk rfl rfl rfl (spec_StoreOK_t _ y12 A14 p15 _ o17.view (hs.hasG (k := 4) rfl) A18 p19 _ o21.view (hs.hasG (k := 5) rfl) _ h23) ?_
    rintro _ w ⟨rfl, hG⟩ a hk
    have hs := hs.call0 hG
    refine sa _ rfl hk rfl rfl rfl fun a hk => ?_
    show wpList _ _ _ [] _ _
    refine wpList_nil ?_
    refine hK11 _ _ ?_
    apply wp_seq_k; intro K24 hK24
    apply wp_region_lit
    refine sln [.string x0.Key, .int .i64 x0.Reg.Epoch, .int .i64 x0.Reg.Side, .int .i64 x0.Reg.Count, .int .i64 x0.Reg.Boot, .string x0.Reg.Base, .string x0.Reg.Tip, .string x0.Reg.Root, .slice A0_0 x0.Device.Sure.length p0_0, .slice A0_1 x0.Device.Unsure.length p0_1, .bool x0.Up, .bool x0.Dead] rfl hk rfl rfl rfl ag29 sz29 (box_cells hs (k := 3) rfl) fun a hk => ?_
    obtain ⟨y25, h26, H⟩ := bind_some H
    refine sc rfl en13 hk rfl rfl rfl (laws_toStore_t _ x0 A0_0 p0_0 _ v0_0 (hs.hasD (k := 1) rfl) A0_1 p0_1 _ v0_1 (hs.hasD (k := 2) rfl) _ h26) ?_
    rintro _ w ⟨A27, p28, k29, A31, p32, k33, rfl, o30, o34, hG⟩ a hk
    have hs := hs.call0k hG [6, 7] rfl
    refine salx 8 hs rfl hk rfl rfl ze37 rfl fun b35 w a hk hs => ?_
    refine ssw 8 hs rfl rfl hk rfl rfl rfl rfl sz37 (by simp [Value.oneCell']) rfl fun w a hk hs => ?_
    show wpList _ _ _ [] _ _
    refine wpList_nil ?_
    refine hK24 _ _ ?_
    apply wp_seq_k; intro K36 hK36
    apply wp_region_lit
    refine sln [.string y25.Key, .int .i64 y25.Reg.Epoch, .int .i64 y25.Reg.Side, .int .i64 y25.Reg.Count, .int .i64 y25.Reg.Boot, .string y25.Reg.Base, .string y25.Reg.Tip, .string y25.Reg.Root, .slice A27 y25.Device.Sure.length p28, .slice A31 y25.Device.Unsure.length p32, .bool y25.Up, .bool y25.Dead] rfl hk rfl rfl rfl ag37 sz37 (box_cells hs (k := 8) rfl) fun a hk => ?_
    obtain ⟨y37, h38, H⟩ := bind_some H
    refine sc rfl en17 hk rfl rfl rfl (impl_StoreOK_t _ y25 A27 p28 _ o30.view (hs.hasG (k := 6) rfl) A31 p32 _ o34.view (hs.hasG (k := 7) rfl) _ h38) ?_
    rintro _ w ⟨rfl, hG⟩ a hk
    have hs := hs.call0 hG
    refine sa _ rfl hk rfl rfl rfl fun a hk => ?_
    show wpList _ _ _ [] _ _
    refine wpList_nil ?_
    refine hK36 _ _ ?_
    apply wp_seq_k; intro K39 hK39
    apply wp_seq_k; intro K40 hK40
    apply wp_region_lit
    refine sm _ rfl hk rfl rfl rfl fun a hk => ?_
    refine sm _ rfl hk rfl rfl rfl fun a hk => ?_
    refine sbn rfl hk rfl rfl rfl rfl un4 fun a hk => ?_
    show wpList _ _ _ [] _ _
    refine wpList_nil ?_
    refine hK40 _ _ ?_
    rcases cond_some H with ⟨c41, H⟩ | ⟨c41, H⟩
    · have hk := hk.lit 21 c41 rfl
      refine cnd_true hk rfl rfl ?_
      apply wp_seq_k; intro K42 hK42
      apply wp_region_lit
      refine sa _ rfl hk rfl rfl rfl fun a hk => ?_
      show wpList _ _ _ [] _ _
      refine wpList_nil ?_
      refine hK42 _ _ ?_
      refine wp_ret ?_
      obtain rfl := Option.some.inj H
      exact fin hk _ [(.bool false)] rfl ⟨rfl, trivial⟩ ⟨rfl, (hs.pick [] rfl).dnil⟩
    · have hk := hk.lit 21 c41 rfl
      refine cnd_false hk rfl rfl ?_
      refine wp_skip ?_
      refine hK39 _ _ ?_
      apply wp_seq_k; intro K43 hK43
      apply wp_seq_k; intro K44 hK44
      refine wp_region_tree (.q 0 (.alt 1 (.alt 2 (.alt 3 (.alt 4 .done .stop) .stop) .stop) .stop)) mo (by kernel_rfl) (hs.pick [(8, 8), (7, 7), (6, 6), (5, 5), (4, 4), (3, 3)] rfl) fun _ => ?_
      have hs := hs.drew
      refine tqst (.agg #[.string y25.Key, .int .i64 y25.Reg.Epoch, .int .i64 y25.Reg.Side, .int .i64 y25.Reg.Count, .int .i64 y25.Reg.Boot, .string y25.Reg.Base, .string y25.Reg.Tip, .string y25.Reg.Root, .slice A27 y25.Device.Sure.length p28, .slice A31 y25.Device.Unsure.length p32, .bool y25.Up, .bool y25.Dead]) hk rfl rfl rfl rfl (fun w hs => sln [.string y25.Key, .int .i64 y25.Reg.Epoch, .int .i64 y25.Reg.Side, .int .i64 y25.Reg.Count, .int .i64 y25.Reg.Boot, .string y25.Reg.Base, .string y25.Reg.Tip, .string y25.Reg.Root, .slice A27 y25.Device.Sure.length p28, .slice A31 y25.Device.Unsure.length p32, .bool y25.Up, .bool y25.Dead] rfl hk rfl rfl rfl ag37 sz37 (box_cells hs (k := 8) rfl) fun a hk => qe hk) fun a hk => ?_
      refine tsst hk rfl rfl (fun K_r45_1 hK_r45_1 w hF => ?_) wt_stop
      have hs := hs.f hF
      refine sln [.string x0.Key, .int .i64 x0.Reg.Epoch, .int .i64 x0.Reg.Side, .int .i64 x0.Reg.Count, .int .i64 x0.Reg.Boot, .string x0.Reg.Base, .string x0.Reg.Tip, .string x0.Reg.Root, .slice A0_0 x0.Device.Sure.length p0_0, .slice A0_1 x0.Device.Unsure.length p0_1, .bool x0.Up, .bool x0.Dead] rfl hk rfl rfl rfl ag29 sz29 (box_cells hs (k := 3) rfl) fun a hk => ?_
      refine se (hs.pick [(8, 8), (7, 7), (6, 6), (5, 5), (4, 4), (3, 3)] rfl) hk (hK_r45_1 _ _ ?_)
      refine tsst hk rfl rfl (fun K_r45_2 hK_r45_2 w hF => ?_) wt_stop
      have hs := hs.f hF
      obtain ⟨y46, h47, H⟩ := bind_some H
      refine sc rfl en13 hk rfl rfl rfl (laws_toStore_t _ x0 A0_0 p0_0 _ v0_0 (hs.hasD (k := 1) rfl) A0_1 p0_1 _ v0_1 (hs.hasD (k := 2) rfl) _ h47) ?_
      rintro _ w ⟨A48, p49, k50, A52, p53, k54, rfl, o51, o55, hG⟩ a hk
      have hs := hs.call0k hG [10, 11] rfl
      refine se (hs.pick [(8, 8), (7, 7), (6, 6), (5, 5), (4, 4), (3, 3)] rfl) hk (hK_r45_2 _ _ ?_)
      refine tsst hk rfl rfl (fun K_r45_3 hK_r45_3 w hF => ?_) wt_stop
      have hs := hs.f hF
      obtain ⟨y56, h57, H⟩ := bind_some H
      refine sc rfl en15 hk rfl rfl rfl (laws_eqStore_t _ y25 A27 p28 _ o30.view (hs.hasG (k := 6) rfl) A31 p32 _ o34.view (hs.hasG (k := 7) rfl) y46 A48 p49 _ o51.view (hs.hasG (k := 10) rfl) A52 p53 _ o55.view (hs.hasG (k := 11) rfl) _ h57) ?_
      rintro _ w ⟨rfl, hG⟩ a hk
      have hs := hs.call0 hG
      refine se (hs.pick [(8, 8), (7, 7), (6, 6), (5, 5), (4, 4), (3, 3)] rfl) hk (hK_r45_3 _ _ ?_)
      refine tsst hk rfl rfl (fun K_r45_4 hK_r45_4 w hF => ?_) wt_stop
      have hs := hs.f hF
      refine sv (.bool (!y56)) hk rfl rfl rfl fun a hk => ?_
      refine se (hs.pick [(8, 8), (7, 7), (6, 6), (5, 5), (4, 4), (3, 3)] rfl) hk (hK_r45_4 _ _ ?_)
      refine wtl_nil fun w hF _ => ?_
      have hs := hs.f hF
      refine hK44 _ _ ?_
      rcases cond_some H with ⟨c58, H⟩ | ⟨c58, H⟩
      · have hk := hk.lit 26 c58 rfl
        refine cnd_true hk rfl rfl ?_
        apply wp_seq_k; intro K59 hK59
        apply wp_region_lit
        refine sa _ rfl hk rfl rfl rfl fun a hk => ?_
        show wpList _ _ _ [] _ _
        refine wpList_nil ?_
        refine hK59 _ _ ?_
        refine wp_ret ?_
        obtain rfl := Option.some.inj H
        exact fin hk _ [(.bool false)] rfl ⟨rfl, trivial⟩ ⟨rfl, (hs.pick [] rfl).dnil⟩
      · have hk := hk.lit 26 c58 rfl
        refine cnd_false hk rfl rfl ?_
        refine wp_skip ?_
        refine hK43 _ _ ?_
        apply wp_seq_k; intro K60 hK60
        apply wp_region_lit
        refine sa _ rfl hk rfl rfl rfl fun a hk => ?_
        show wpList _ _ _ [] _ _
        refine wpList_nil ?_
        refine hK60 _ _ ?_
        refine wp_ret ?_
        obtain rfl := Option.some.inj H
        exact fin hk _ [(.bool true)] rfl ⟨rfl, trivial⟩ ⟨rfl, (hs.pick [] rfl).dnil⟩

end Go.Proofs.Ytmafglodgnbajaa
