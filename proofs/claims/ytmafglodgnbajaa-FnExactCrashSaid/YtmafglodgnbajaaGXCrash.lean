/- The functions that FnExactCrash reaches: for each a model and the walk that shows that the Go code comes to it. -/
import Derived.Test.YtmafglodgnbajaaGXWriteAt
namespace Go.Proofs.Ytmafglodgnbajaa
open Go Go.Z Go.Proofs Go.MuLone Go.ChangeShapes Go.WideShapes Go.ChangeAt Go.RowKit
set_option linter.unusedVariables false
set_option linter.unusedSimpArgs false
noncomputable def spec_l13Ask.f (x0 : S_Store) : Option (Int) :=
  (bif x0.Dead then (some 18) else (bif (!x0.Up) then (some 16) else (some 0)))
set_option maxRecDepth 100000 in
set_option maxHeartbeats 0 in
theorem spec_l13Ask_t (w0 : World) (x0 : S_Store) (A0_0 : Option Addr) (p0_0 : Nat) (k0_0 : Chunk) (v0_0 : View Lay.str A0_0 p0_0 x0.Device.Sure k0_0) (w0_0 : Has w0 k0_0) (A0_1 : Option Addr) (p0_1 : Nat) (k0_1 : Chunk) (v0_1 : View L_Io A0_1 p0_1 x0.Device.Unsure k0_1) (w0_1 : Has w0 k0_1) (r : Int) (H : spec_l13Ask.f x0 = some r) :
    Calls Try.prog 123 #[.agg #[.string x0.Key, .int .i64 x0.Reg.Epoch, .int .i64 x0.Reg.Side, .int .i64 x0.Reg.Count, .int .i64 x0.Reg.Boot, .string x0.Reg.Base, .string x0.Reg.Tip, .string x0.Reg.Root, .slice A0_0 x0.Device.Sure.length p0_0, .slice A0_1 x0.Device.Unsure.length p0_1, .bool x0.Up, .bool x0.Dead]] w0 (Ret (fun v w => v = .int .i64 r ∧ Sat [] w0 w [] [])) := by
  have hs : Sat [] w0 w0 [(1, k0_0), (2, k0_1)] [] := Sat.init w0 [(1, k0_0), (2, k0_1)] [] (by simp only [List.mem_cons, List.not_mem_nil, or_false]; rintro x (rfl | rfl) <;> assumption) (by simp) List.nodup_nil (by simp [blks])
  unfold spec_l13Ask.f at H
  refine enter Try.func123 rfl Try.ntmps123 rfl fun a hk => ?_
  apply wp_seq_k; intro K1 hK1
  apply wp_region_lit
  refine sbx 3 hs rfl hk rfl rfl rfl rfl fun b2 w a hk hs => ?_
  refine sa _ rfl hk rfl rfl rfl fun a hk => ?_
  show wpList _ _ _ [] _ _
  refine wpList_nil ?_
  refine hK1 _ _ ?_
  apply wp_seq_k; intro K3 hK3
  refine wp_block ?_
  apply wp_seq_k; intro K4 hK4
  apply wp_region_lit
  refine sf ⟨b2, 11, none⟩ rfl hk rfl rfl rfl fd37_4 rfl fun a hk => ?_
  refine sl rfl hk rfl rfl rfl ag4 (box_cell hs (k := 3) rfl rfl) fun a hk => ?_
  refine sa _ rfl hk rfl rfl rfl fun a hk => ?_
  show wpList _ _ _ [] _ _
  refine wpList_nil ?_
  refine hK4 _ _ ?_
  rcases cond_some H with ⟨c5, H⟩ | ⟨c5, H⟩
  · have hk := hk.lit 3 c5 rfl
    refine cnd_true hk rfl rfl ?_
    apply wp_seq_k; intro K6 hK6
    apply wp_region_lit
    refine sa _ rfl hk rfl rfl rfl fun a hk => ?_
    show wpList _ _ _ [] _ _
    refine wpList_nil ?_
    refine hK6 _ _ ?_
    refine wp_ret ?_
    obtain rfl := Option.some.inj H
    exact fin hk _ [(.int .i64 18)] rfl ⟨rfl, trivial⟩ ⟨rfl, (hs.pick [] rfl).dnil⟩
  · have hk := hk.lit 3 c5 rfl
    refine cnd_false hk rfl rfl ?_
    apply wp_seq_k; intro K7 hK7
    apply wp_region_lit
    refine sf ⟨b2, 10, none⟩ rfl hk rfl rfl rfl fd37_3 rfl fun a hk => ?_
    refine sl rfl hk rfl rfl rfl ag4 (box_cell hs (k := 3) rfl rfl) fun a hk => ?_
    refine sv (.bool (!x0.Up)) hk rfl rfl rfl fun a hk => ?_
    refine sa _ rfl hk rfl rfl rfl fun a hk => ?_
    show wpList _ _ _ [] _ _
    refine wpList_nil ?_
    refine hK7 _ _ ?_
    rcases cond_some H with ⟨c8, H⟩ | ⟨c8, H⟩
    · have hk := hk.lit 6 c8 rfl
      refine cnd_true hk rfl rfl ?_
      apply wp_seq_k; intro K9 hK9
      apply wp_region_lit
      refine sa _ rfl hk rfl rfl rfl fun a hk => ?_
      show wpList _ _ _ [] _ _
      refine wpList_nil ?_
      refine hK9 _ _ ?_
      refine wp_ret ?_
      obtain rfl := Option.some.inj H
      exact fin hk _ [(.int .i64 16)] rfl ⟨rfl, trivial⟩ ⟨rfl, (hs.pick [] rfl).dnil⟩
    · have hk := hk.lit 6 c8 rfl
      refine cnd_false hk rfl rfl ?_
      refine wp_skip ?_
      refine hK3 _ _ ?_
      apply wp_seq_k; intro K10 hK10
      apply wp_region_lit
      refine sa _ rfl hk rfl rfl rfl fun a hk => ?_
      show wpList _ _ _ [] _ _
      refine wpList_nil ?_
      refine hK10 _ _ ?_
      refine wp_ret ?_
      obtain rfl := Option.some.inj H
      exact fin hk _ [(.int .i64 0)] rfl ⟨rfl, trivial⟩ ⟨rfl, (hs.pick [] rfl).dnil⟩

noncomputable def spec_l13Crash.f (x0 : S_Store) : Option (S_Store × Int) :=
  ((spec_l13Ask.f x0).bind fun y6 => (bif (y6 != 0) then (some (x0, y6)) else (some ((⟨x0.Key, x0.Reg, x0.Device, false, x0.Dead⟩ : S_Store), 0))))
set_option maxRecDepth 100000 in
set_option maxHeartbeats 0 in
theorem spec_l13Crash_t (w0 : World) (x0 : S_Store) (A0_0 : Option Addr) (p0_0 : Nat) (k0_0 : Chunk) (v0_0 : View Lay.str A0_0 p0_0 x0.Device.Sure k0_0) (w0_0 : Has w0 k0_0) (A0_1 : Option Addr) (p0_1 : Nat) (k0_1 : Chunk) (v0_1 : View L_Io A0_1 p0_1 x0.Device.Unsure k0_1) (w0_1 : Has w0 k0_1) (r : S_Store × Int) (H : spec_l13Crash.f x0 = some r) :
    Calls Try.prog 91 #[.agg #[.string x0.Key, .int .i64 x0.Reg.Epoch, .int .i64 x0.Reg.Side, .int .i64 x0.Reg.Count, .int .i64 x0.Reg.Boot, .string x0.Reg.Base, .string x0.Reg.Tip, .string x0.Reg.Root, .slice A0_0 x0.Device.Sure.length p0_0, .slice A0_1 x0.Device.Unsure.length p0_1, .bool x0.Up, .bool x0.Dead]] w0 (Ret (fun v w => ∃ (A0 : Option Addr) (p0 : Nat), ∃ (A1 : Option Addr) (p1 : Nat), ∃ (kS : Chunk), v = .tuple #[.agg #[.string r.1.Key, .int .i64 r.1.Reg.Epoch, .int .i64 r.1.Reg.Side, .int .i64 r.1.Reg.Count, .int .i64 r.1.Reg.Boot, .string r.1.Reg.Base, .string r.1.Reg.Tip, .string r.1.Reg.Root, .slice A0 r.1.Device.Sure.length p0, .slice A1 r.1.Device.Unsure.length p1, .bool r.1.Up, .bool r.1.Dead], .int .i64 r.2] ∧ View Lay.str A0 p0 r.1.Device.Sure (k0_0 ++ (k0_1 ++ kS)) ∧ View L_Io A1 p1 r.1.Device.Unsure (k0_0 ++ (k0_1 ++ kS)) ∧ Sat [] w0 w [] [(0, kS)])) := by
  have hs : Sat [] w0 w0 [(1, k0_0), (2, k0_1)] [] := Sat.init w0 [(1, k0_0), (2, k0_1)] [] (by simp only [List.mem_cons, List.not_mem_nil, or_false]; rintro x (rfl | rfl) <;> assumption) (by simp) List.nodup_nil (by simp [blks])
  unfold spec_l13Crash.f at H
  refine enter Try.func91 rfl Try.ntmps91 rfl fun a hk => ?_
  apply wp_seq_k; intro K1 hK1
  apply wp_region_lit
  refine sbx 3 hs rfl hk rfl rfl rfl rfl fun b2 w a hk hs => ?_
  refine salx 4 hs rfl hk rfl rfl ze37 rfl fun b3 w a hk hs => ?_
  refine sa _ rfl hk rfl rfl rfl fun a hk => ?_
  show wpList _ _ _ [] _ _
  refine wpList_nil ?_
  refine hK1 _ _ ?_
  apply wp_seq_k; intro K4 hK4
  apply wp_seq_k; intro K5 hK5
  apply wp_region_lit
  refine sln [.string x0.Key, .int .i64 x0.Reg.Epoch, .int .i64 x0.Reg.Side, .int .i64 x0.Reg.Count, .int .i64 x0.Reg.Boot, .string x0.Reg.Base, .string x0.Reg.Tip, .string x0.Reg.Root, .slice A0_0 x0.Device.Sure.length p0_0, .slice A0_1 x0.Device.Unsure.length p0_1, .bool x0.Up, .bool x0.Dead] rfl hk rfl rfl rfl ag37 sz37 (box_cells hs (k := 3) rfl) fun a hk => ?_
  obtain ⟨y6, h7, H⟩ := bind_some H
  refine sc rfl en123 hk rfl rfl rfl (spec_l13Ask_t _ x0 A0_0 p0_0 _ v0_0 (hs.hasD (k := 1) rfl) A0_1 p0_1 _ v0_1 (hs.hasD (k := 2) rfl) _ h7) ?_
  rintro _ w ⟨rfl, hG⟩ a hk
  have hs := hs.call0 hG
  refine sa _ rfl hk rfl rfl rfl fun a hk => ?_
  show wpList _ _ _ [] _ _
  refine wpList_nil ?_
  refine hK5 _ _ ?_
  apply wp_seq_k; intro K8 hK8
  apply wp_region_lit
  refine sm _ rfl hk rfl rfl rfl fun a hk => ?_
  refine sv (.bool (y6 != 0)) hk rfl rfl rfl fun a hk => ?_
  show wpList _ _ _ [] _ _
  refine wpList_nil ?_
  refine hK8 _ _ ?_
  rcases cond_some H with ⟨c9, H⟩ | ⟨c9, H⟩
  · have hk := hk.lit 8 c9 rfl
    refine cnd_true hk rfl rfl ?_
    apply wp_seq_k; intro K10 hK10
    apply wp_region_lit
    refine sln [.string x0.Key, .int .i64 x0.Reg.Epoch, .int .i64 x0.Reg.Side, .int .i64 x0.Reg.Count, .int .i64 x0.Reg.Boot, .string x0.Reg.Base, .string x0.Reg.Tip, .string x0.Reg.Root, .slice A0_0 x0.Device.Sure.length p0_0, .slice A0_1 x0.Device.Unsure.length p0_1, .bool x0.Up, .bool x0.Dead] rfl hk rfl rfl rfl ag37 sz37 (box_cells hs (k := 3) rfl) fun a hk => ?_
    refine sm _ rfl hk rfl rfl rfl fun a hk => ?_
    refine ssw 4 hs rfl rfl hk rfl rfl rfl rfl sz37 (by simp [Value.oneCell']) rfl fun w a hk hs => ?_
    refine sa _ rfl hk rfl rfl rfl fun a hk => ?_
    show wpList _ _ _ [] _ _
    refine wpList_nil ?_
    refine hK10 _ _ ?_
    refine wp_ret ?_
    obtain rfl := Option.some.inj H
    exact fin hk _ [(.agg #[.string x0.Key, .int .i64 x0.Reg.Epoch, .int .i64 x0.Reg.Side, .int .i64 x0.Reg.Count, .int .i64 x0.Reg.Boot, .string x0.Reg.Base, .string x0.Reg.Tip, .string x0.Reg.Root, .slice A0_0 x0.Device.Sure.length p0_0, .slice A0_1 x0.Device.Unsure.length p0_1, .bool x0.Up, .bool x0.Dead]), (.int .i64 y6)] rfl ⟨⟨_, rfl, run_loadN ag37 sz37 (box_cells hs (k := 4) rfl)⟩, ⟨rfl, trivial⟩⟩ ⟨A0_0, p0_0, A0_1, p0_1, _, rfl, (v0_0).sub (Sub.l _ (Sub.refl _)), (v0_1).sub (Sub.r _ (Sub.l _ (Sub.refl _))), ((hs.addNil 3000).pick [(0, 3000)] rfl).dnil⟩
  · have hk := hk.lit 8 c9 rfl
    refine cnd_false hk rfl rfl ?_
    refine wp_skip ?_
    refine hK4 _ _ ?_
    apply wp_seq_k; intro K11 hK11
    apply wp_region_lit
    refine sf ⟨b2, 10, none⟩ rfl hk rfl rfl rfl fd37_3 rfl fun a hk => ?_
    refine ssx (cs' := #[.string x0.Key, .int .i64 x0.Reg.Epoch, .int .i64 x0.Reg.Side, .int .i64 x0.Reg.Count, .int .i64 x0.Reg.Boot, .string x0.Reg.Base, .string x0.Reg.Tip, .string x0.Reg.Root, .slice A0_0 x0.Device.Sure.length p0_0, .slice A0_1 x0.Device.Unsure.length p0_1, .bool false, .bool x0.Dead]) 3 hs rfl rfl hk rfl rfl rfl rfl sz4 rfl rfl rfl rfl fun w a hk hs => ?_
    show wpList _ _ _ [] _ _
    refine wpList_nil ?_
    refine hK11 _ _ ?_
    apply wp_seq_k; intro K12 hK12
    apply wp_region_lit
    refine sln [.string x0.Key, .int .i64 x0.Reg.Epoch, .int .i64 x0.Reg.Side, .int .i64 x0.Reg.Count, .int .i64 x0.Reg.Boot, .string x0.Reg.Base, .string x0.Reg.Tip, .string x0.Reg.Root, .slice A0_0 x0.Device.Sure.length p0_0, .slice A0_1 x0.Device.Unsure.length p0_1, .bool false, .bool x0.Dead] rfl hk rfl rfl rfl ag37 sz37 (box_cells hs (k := 3) rfl) fun a hk => ?_
    refine ssw 4 hs rfl rfl hk rfl rfl rfl rfl sz37 (by simp [Value.oneCell']) rfl fun w a hk hs => ?_
    refine sa _ rfl hk rfl rfl rfl fun a hk => ?_
    show wpList _ _ _ [] _ _
    refine wpList_nil ?_
    refine hK12 _ _ ?_
    refine wp_ret ?_
    obtain rfl := Option.some.inj H
    exact fin hk _ [(.agg #[.string x0.Key, .int .i64 x0.Reg.Epoch, .int .i64 x0.Reg.Side, .int .i64 x0.Reg.Count, .int .i64 x0.Reg.Boot, .string x0.Reg.Base, .string x0.Reg.Tip, .string x0.Reg.Root, .slice A0_0 x0.Device.Sure.length p0_0, .slice A0_1 x0.Device.Unsure.length p0_1, .bool false, .bool x0.Dead]), (.int .i64 0)] rfl ⟨⟨_, rfl, run_loadN ag37 sz37 (box_cells hs (k := 4) rfl)⟩, ⟨rfl, trivial⟩⟩ ⟨A0_0, p0_0, A0_1, p0_1, _, rfl, (v0_0).sub (Sub.l _ (Sub.refl _)), (v0_1).sub (Sub.r _ (Sub.l _ (Sub.refl _))), ((hs.addNil 3000).pick [(0, 3000)] rfl).dnil⟩

noncomputable def spec_l13Own.f (x0 : S_Store) : Option (S_Store) :=
  ((spec_l05Own.f x0.Device).bind fun y5 => (some (⟨x0.Key, x0.Reg, y5, x0.Up, x0.Dead⟩ : S_Store)))
set_option maxRecDepth 100000 in
set_option maxHeartbeats 0 in
theorem spec_l13Own_t (w0 : World) (x0 : S_Store) (A0_0 : Option Addr) (p0_0 : Nat) (k0_0 : Chunk) (v0_0 : View Lay.str A0_0 p0_0 x0.Device.Sure k0_0) (w0_0 : Has w0 k0_0) (A0_1 : Option Addr) (p0_1 : Nat) (k0_1 : Chunk) (v0_1 : View L_Io A0_1 p0_1 x0.Device.Unsure k0_1) (w0_1 : Has w0 k0_1) (r : S_Store) (H : spec_l13Own.f x0 = some r) :
    Calls Try.prog 92 #[.agg #[.string x0.Key, .int .i64 x0.Reg.Epoch, .int .i64 x0.Reg.Side, .int .i64 x0.Reg.Count, .int .i64 x0.Reg.Boot, .string x0.Reg.Base, .string x0.Reg.Tip, .string x0.Reg.Root, .slice A0_0 x0.Device.Sure.length p0_0, .slice A0_1 x0.Device.Unsure.length p0_1, .bool x0.Up, .bool x0.Dead]] w0 (Ret (fun v w => ∃ (A0 : Option Addr) (p0 : Nat) (k0 : Chunk), ∃ (A1 : Option Addr) (p1 : Nat) (k1 : Chunk), v = .agg #[.string r.Key, .int .i64 r.Reg.Epoch, .int .i64 r.Reg.Side, .int .i64 r.Reg.Count, .int .i64 r.Reg.Boot, .string r.Reg.Base, .string r.Reg.Tip, .string r.Reg.Root, .slice A0 r.Device.Sure.length p0, .slice A1 r.Device.Unsure.length p1, .bool r.Up, .bool r.Dead] ∧ Own Lay.str 9 A0 p0 r.Device.Sure k0 ∧ Own L_Io 114 A1 p1 r.Device.Unsure k1 ∧ Sat [] w0 w [] [(0, k0), (1, k1)])) := by
  have hs : Sat [] w0 w0 [(1, k0_0), (2, k0_1)] [] := Sat.init w0 [(1, k0_0), (2, k0_1)] [] (by simp only [List.mem_cons, List.not_mem_nil, or_false]; rintro x (rfl | rfl) <;> assumption) (by simp) List.nodup_nil (by simp [blks])
  unfold spec_l13Own.f at H
  refine enter Try.func92 rfl Try.ntmps92 rfl fun a hk => ?_
  apply wp_seq_k; intro K1 hK1
  apply wp_region_lit
  refine sbx 3 hs rfl hk rfl rfl rfl rfl fun b2 w a hk hs => ?_
  refine salx 4 hs rfl hk rfl rfl ze37 rfl fun b3 w a hk hs => ?_
  show wpList _ _ _ [] _ _
  refine wpList_nil ?_
  refine hK1 _ _ ?_
  apply wp_seq_k; intro K4 hK4
  apply wp_region_lit
  refine sf ⟨b2, 8, none⟩ rfl hk rfl rfl rfl fd37_2 rfl fun a hk => ?_
  refine sln [.slice A0_0 x0.Device.Sure.length p0_0, .slice A0_1 x0.Device.Unsure.length p0_1] rfl hk rfl rfl rfl ag35 sz35 (box_part hs (k := 3) rfl rfl) fun a hk => ?_
  obtain ⟨y5, h6, H⟩ := bind_some H
  refine sc rfl en75 hk rfl rfl rfl (spec_l05Own_t _ x0.Device A0_0 p0_0 _ v0_0 (hs.hasD (k := 1) rfl) A0_1 p0_1 _ v0_1 (hs.hasD (k := 2) rfl) _ h6) ?_
  rintro _ w ⟨A7, p8, k9, A11, p12, k13, rfl, o10, o14, hG⟩ a hk
  have hs := hs.call0k hG [5, 6] rfl
  refine sf ⟨b2, 8, none⟩ rfl hk rfl rfl rfl fd37_2 rfl fun a hk => ?_
  refine ssp (cs' := #[.string x0.Key, .int .i64 x0.Reg.Epoch, .int .i64 x0.Reg.Side, .int .i64 x0.Reg.Count, .int .i64 x0.Reg.Boot, .string x0.Reg.Base, .string x0.Reg.Tip, .string x0.Reg.Root, .slice A7 y5.Sure.length p8, .slice A11 y5.Unsure.length p12, .bool x0.Up, .bool x0.Dead]) 3 hs rfl rfl hk rfl rfl rfl rfl sz35 (by simp [Value.oneCell']) rfl rfl fun w a hk hs => ?_
  show wpList _ _ _ [] _ _
  refine wpList_nil ?_
  refine hK4 _ _ ?_
  apply wp_seq_k; intro K15 hK15
  apply wp_region_lit
  refine sln [.string x0.Key, .int .i64 x0.Reg.Epoch, .int .i64 x0.Reg.Side, .int .i64 x0.Reg.Count, .int .i64 x0.Reg.Boot, .string x0.Reg.Base, .string x0.Reg.Tip, .string x0.Reg.Root, .slice A7 y5.Sure.length p8, .slice A11 y5.Unsure.length p12, .bool x0.Up, .bool x0.Dead] rfl hk rfl rfl rfl ag37 sz37 (box_cells hs (k := 3) rfl) fun a hk => ?_
  refine ssw 4 hs rfl rfl hk rfl rfl rfl rfl sz37 (by simp [Value.oneCell']) rfl fun w a hk hs => ?_
  show wpList _ _ _ [] _ _
  refine wpList_nil ?_
  refine hK15 _ _ ?_
  refine wp_ret ?_
  obtain rfl := Option.some.inj H
  exact fin hk _ [(.agg #[.string x0.Key, .int .i64 x0.Reg.Epoch, .int .i64 x0.Reg.Side, .int .i64 x0.Reg.Count, .int .i64 x0.Reg.Boot, .string x0.Reg.Base, .string x0.Reg.Tip, .string x0.Reg.Root, .slice A7 y5.Sure.length p8, .slice A11 y5.Unsure.length p12, .bool x0.Up, .bool x0.Dead])] rfl ⟨⟨_, rfl, run_loadN ag37 sz37 (box_cells hs (k := 4) rfl)⟩, trivial⟩ ⟨A7, p8, _, A11, p12, _, rfl, o10, o14, (hs.pick [(0, 5), (1, 6)] rfl).dnil⟩

noncomputable def spec_Crash.f (x0 : S_Store) : Option (S_Store × Int) :=
  ((spec_StoreOK.f x0).bind fun y6 => (bif (!y6) then (some ((⟨ByteArray.empty, (⟨0, 0, 0, 0, ByteArray.empty, ByteArray.empty, ByteArray.empty⟩ : S_Register), (⟨([] : List ByteArray), ([] : List S_Io)⟩ : S_Device), false, false⟩ : S_Store), 1)) else ((spec_l13Crash.f x0).bind fun y11 => ((spec_l13Own.f y11.1).bind fun y22 => (some (y22, y11.2))))))
set_option maxRecDepth 100000 in
set_option maxHeartbeats 0 in
theorem spec_Crash_t (w0 : World) (x0 : S_Store) (A0_0 : Option Addr) (p0_0 : Nat) (k0_0 : Chunk) (v0_0 : View Lay.str A0_0 p0_0 x0.Device.Sure k0_0) (w0_0 : Has w0 k0_0) (A0_1 : Option Addr) (p0_1 : Nat) (k0_1 : Chunk) (v0_1 : View L_Io A0_1 p0_1 x0.Device.Unsure k0_1) (w0_1 : Has w0 k0_1) (r : S_Store × Int) (H : spec_Crash.f x0 = some r) :
    Calls Try.prog 37 #[.agg #[.string x0.Key, .int .i64 x0.Reg.Epoch, .int .i64 x0.Reg.Side, .int .i64 x0.Reg.Count, .int .i64 x0.Reg.Boot, .string x0.Reg.Base, .string x0.Reg.Tip, .string x0.Reg.Root, .slice A0_0 x0.Device.Sure.length p0_0, .slice A0_1 x0.Device.Unsure.length p0_1, .bool x0.Up, .bool x0.Dead]] w0 (Ret (fun v w => ∃ (A0 : Option Addr) (p0 : Nat) (k0 : Chunk), ∃ (A1 : Option Addr) (p1 : Nat) (k1 : Chunk), v = .tuple #[.agg #[.string r.1.Key, .int .i64 r.1.Reg.Epoch, .int .i64 r.1.Reg.Side, .int .i64 r.1.Reg.Count, .int .i64 r.1.Reg.Boot, .string r.1.Reg.Base, .string r.1.Reg.Tip, .string r.1.Reg.Root, .slice A0 r.1.Device.Sure.length p0, .slice A1 r.1.Device.Unsure.length p1, .bool r.1.Up, .bool r.1.Dead], .int .i64 r.2] ∧ Own Lay.str 9 A0 p0 r.1.Device.Sure k0 ∧ Own L_Io 114 A1 p1 r.1.Device.Unsure k1 ∧ Sat [] w0 w [] [(0, k0), (1, k1)])) := by
  have hs : Sat [] w0 w0 [(1, k0_0), (2, k0_1)] [] := Sat.init w0 [(1, k0_0), (2, k0_1)] [] (by simp only [List.mem_cons, List.not_mem_nil, or_false]; rintro x (rfl | rfl) <;> assumption) (by simp) List.nodup_nil (by simp [blks])
  unfold spec_Crash.f at H
  refine enter Try.func37 rfl Try.ntmps37 rfl fun a hk => ?_
  apply wp_seq_k; intro K1 hK1
  apply wp_region_lit
  refine sbx 3 hs rfl hk rfl rfl rfl rfl fun b2 w a hk hs => ?_
  refine salx 4 hs rfl hk rfl rfl ze37 rfl fun b3 w a hk hs => ?_
  refine sa _ rfl hk rfl rfl rfl fun a hk => ?_
  show wpList _ _ _ [] _ _
  refine wpList_nil ?_
  refine hK1 _ _ ?_
  apply wp_seq_k; intro K4 hK4
  apply wp_seq_k; intro K5 hK5
  apply wp_region_lit
  refine sln [.string x0.Key, .int .i64 x0.Reg.Epoch, .int .i64 x0.Reg.Side, .int .i64 x0.Reg.Count, .int .i64 x0.Reg.Boot, .string x0.Reg.Base, .string x0.Reg.Tip, .string x0.Reg.Root, .slice A0_0 x0.Device.Sure.length p0_0, .slice A0_1 x0.Device.Unsure.length p0_1, .bool x0.Up, .bool x0.Dead] rfl hk rfl rfl rfl ag37 sz37 (box_cells hs (k := 3) rfl) fun a hk => ?_
  obtain ⟨y6, h7, H⟩ := bind_some H
  refine sc rfl en16 hk rfl rfl rfl (spec_StoreOK_t _ x0 A0_0 p0_0 _ v0_0 (hs.hasD (k := 1) rfl) A0_1 p0_1 _ v0_1 (hs.hasD (k := 2) rfl) _ h7) ?_
  rintro _ w ⟨rfl, hG⟩ a hk
  have hs := hs.call0 hG
  refine sv (.bool (!y6)) hk rfl rfl rfl fun a hk => ?_
  show wpList _ _ _ [] _ _
  refine wpList_nil ?_
  refine hK5 _ _ ?_
  rcases cond_some H with ⟨c8, H⟩ | ⟨c8, H⟩
  · have hk := hk.lit 8 c8 rfl
    refine cnd_true hk rfl rfl ?_
    apply wp_seq_k; intro K9 hK9
    apply wp_region_lit
    refine sbd (pv := []) rfl hk rfl rfl rfl bd37_6 fun a hk => ?_
    refine ssw 4 hs rfl rfl hk rfl rfl rfl rfl sz37 (by simp [Value.oneCell']) rfl fun w a hk hs => ?_
    refine sa _ rfl hk rfl rfl rfl fun a hk => ?_
    show wpList _ _ _ [] _ _
    refine wpList_nil ?_
    refine hK9 _ _ ?_
    refine wp_ret ?_
    obtain rfl := Option.some.inj H
    have hs := hs.addNil 5
    have hs := hs.addNil 6
    exact fin hk _ [(.agg #[.string ByteArray.empty, .int .i64 0, .int .i64 0, .int .i64 0, .int .i64 0, .string ByteArray.empty, .string ByteArray.empty, .string ByteArray.empty, .slice none 0 0, .slice none 0 0, .bool false, .bool false]), (.int .i64 1)] rfl ⟨⟨_, rfl, run_loadN ag37 sz37 (box_cells hs (k := 4) rfl)⟩, ⟨rfl, trivial⟩⟩ ⟨none, 0, [], none, 0, [], rfl, Own.nil _ _, Own.nil _ _, (hs.pick [(0, 5), (1, 6)] rfl).dnil⟩
  · have hk := hk.lit 8 c8 rfl
    refine cnd_false hk rfl rfl ?_
    refine wp_skip ?_
    refine hK4 _ _ ?_
    apply wp_seq_k; intro K10 hK10
    apply wp_region_lit
    refine sln [.string x0.Key, .int .i64 x0.Reg.Epoch, .int .i64 x0.Reg.Side, .int .i64 x0.Reg.Count, .int .i64 x0.Reg.Boot, .string x0.Reg.Base, .string x0.Reg.Tip, .string x0.Reg.Root, .slice A0_0 x0.Device.Sure.length p0_0, .slice A0_1 x0.Device.Unsure.length p0_1, .bool x0.Up, .bool x0.Dead] rfl hk rfl rfl rfl ag37 sz37 (box_cells hs (k := 3) rfl) fun a hk => ?_
    obtain ⟨y11, h12, H⟩ := bind_some H
    refine sc rfl en91 hk rfl rfl rfl (spec_l13Crash_t _ x0 A0_0 p0_0 _ v0_0 (hs.hasD (k := 1) rfl) A0_1 p0_1 _ v0_1 (hs.hasD (k := 2) rfl) _ h12) ?_
    rintro _ w ⟨A14, p15, A17, p18, k13, rfl, v16, v19, hG⟩ a hk
    have hs := hs.call0k hG [7] rfl
    refine sm _ rfl hk rfl rfl rfl fun a hk => ?_
    refine sv (.agg #[.string y11.1.Key, .int .i64 y11.1.Reg.Epoch, .int .i64 y11.1.Reg.Side, .int .i64 y11.1.Reg.Count, .int .i64 y11.1.Reg.Boot, .string y11.1.Reg.Base, .string y11.1.Reg.Tip, .string y11.1.Reg.Root, .slice A14 y11.1.Device.Sure.length p15, .slice A17 y11.1.Device.Unsure.length p18, .bool y11.1.Up, .bool y11.1.Dead]) hk rfl rfl rfl fun a hk => ?_
    refine sv (.int .i64 y11.2) hk rfl rfl rfl fun a hk => ?_
    refine salx 8 hs rfl hk rfl rfl ze37 rfl fun b20 w a hk hs => ?_
    refine ssw 8 hs rfl rfl hk rfl rfl rfl rfl sz37 (by simp [Value.oneCell']) rfl fun w a hk hs => ?_
    refine sa _ rfl hk rfl rfl rfl fun a hk => ?_
    show wpList _ _ _ [] _ _
    refine wpList_nil ?_
    refine hK10 _ _ ?_
    apply wp_seq_k; intro K21 hK21
    apply wp_region_lit
    refine sln [.string y11.1.Key, .int .i64 y11.1.Reg.Epoch, .int .i64 y11.1.Reg.Side, .int .i64 y11.1.Reg.Count, .int .i64 y11.1.Reg.Boot, .string y11.1.Reg.Base, .string y11.1.Reg.Tip, .string y11.1.Reg.Root, .slice A14 y11.1.Device.Sure.length p15, .slice A17 y11.1.Device.Unsure.length p18, .bool y11.1.Up, .bool y11.1.Dead] rfl hk rfl rfl rfl ag37 sz37 (box_cells hs (k := 8) rfl) fun a hk => ?_
    obtain ⟨y22, h23, H⟩ := bind_some H
    refine sc rfl en92 hk rfl rfl rfl (spec_l13Own_t _ y11.1 A14 p15 _ v16 (Has.app (hs.hasD (k := 1) rfl) (Has.app (hs.hasD (k := 2) rfl) (hs.hasG (k := 7) rfl))) A17 p18 _ v19 (Has.app (hs.hasD (k := 1) rfl) (Has.app (hs.hasD (k := 2) rfl) (hs.hasG (k := 7) rfl))) _ h23) ?_
    rintro _ w ⟨A24, p25, k26, A28, p29, k30, rfl, o27, o31, hG⟩ a hk
    have hs := hs.call0k hG [9, 10] rfl
    refine sm _ rfl hk rfl rfl rfl fun a hk => ?_
    refine ssw 4 hs rfl rfl hk rfl rfl rfl rfl sz37 (by simp [Value.oneCell']) rfl fun w a hk hs => ?_
    refine sa _ rfl hk rfl rfl rfl fun a hk => ?_
    show wpList _ _ _ [] _ _
    refine wpList_nil ?_
    refine hK21 _ _ ?_
    refine wp_ret ?_
    obtain rfl := Option.some.inj H
    exact fin hk _ [(.agg #[.string y22.Key, .int .i64 y22.Reg.Epoch, .int .i64 y22.Reg.Side, .int .i64 y22.Reg.Count, .int .i64 y22.Reg.Boot, .string y22.Reg.Base, .string y22.Reg.Tip, .string y22.Reg.Root, .slice A24 y22.Device.Sure.length p25, .slice A28 y22.Device.Unsure.length p29, .bool y22.Up, .bool y22.Dead]), (.int .i64 y11.2)] rfl ⟨⟨_, rfl, run_loadN ag37 sz37 (box_cells hs (k := 4) rfl)⟩, ⟨rfl, trivial⟩⟩ ⟨A24, p25, _, A28, p29, _, rfl, o27, o31, (hs.pick [(0, 9), (1, 10)] rfl).dnil⟩

noncomputable def impl_Store_upCode.f (x0 : S_Store) : Option (Int) :=
  (bif x0.Dead then (some 18) else (bif (!x0.Up) then (some 16) else (some 0)))
set_option maxRecDepth 100000 in
set_option maxHeartbeats 0 in
theorem impl_Store_upCode_t (w0 : World) (x0 : S_Store) (A0_0 : Option Addr) (p0_0 : Nat) (k0_0 : Chunk) (v0_0 : View Lay.str A0_0 p0_0 x0.Device.Sure k0_0) (w0_0 : Has w0 k0_0) (A0_1 : Option Addr) (p0_1 : Nat) (k0_1 : Chunk) (v0_1 : View L_Io A0_1 p0_1 x0.Device.Unsure k0_1) (w0_1 : Has w0 k0_1) (r : Int) (H : impl_Store_upCode.f x0 = some r) :
    Calls Try.prog 93 #[.agg #[.string x0.Key, .int .i64 x0.Reg.Epoch, .int .i64 x0.Reg.Side, .int .i64 x0.Reg.Count, .int .i64 x0.Reg.Boot, .string x0.Reg.Base, .string x0.Reg.Tip, .string x0.Reg.Root, .slice A0_0 x0.Device.Sure.length p0_0, .slice A0_1 x0.Device.Unsure.length p0_1, .bool x0.Up, .bool x0.Dead]] w0 (Ret (fun v w => v = .int .i64 r ∧ Sat [] w0 w [] [])) := by
  have hs : Sat [] w0 w0 [(1, k0_0), (2, k0_1)] [] := Sat.init w0 [(1, k0_0), (2, k0_1)] [] (by simp only [List.mem_cons, List.not_mem_nil, or_false]; rintro x (rfl | rfl) <;> assumption) (by simp) List.nodup_nil (by simp [blks])
  unfold impl_Store_upCode.f at H
  refine enter Try.func93 rfl Try.ntmps93 rfl fun a hk => ?_
  apply wp_seq_k; intro K1 hK1
  apply wp_region_lit
  refine sbx 3 hs rfl hk rfl rfl rfl rfl fun b2 w a hk hs => ?_
  refine sa _ rfl hk rfl rfl rfl fun a hk => ?_
  show wpList _ _ _ [] _ _
  refine wpList_nil ?_
  refine hK1 _ _ ?_
  apply wp_seq_k; intro K3 hK3
  refine wp_block ?_
  apply wp_seq_k; intro K4 hK4
  apply wp_region_lit
  refine sf ⟨b2, 11, none⟩ rfl hk rfl rfl rfl fd37_4 rfl fun a hk => ?_
  refine sl rfl hk rfl rfl rfl ag4 (box_cell hs (k := 3) rfl rfl) fun a hk => ?_
  refine sa _ rfl hk rfl rfl rfl fun a hk => ?_
  show wpList _ _ _ [] _ _
  refine wpList_nil ?_
  refine hK4 _ _ ?_
  rcases cond_some H with ⟨c5, H⟩ | ⟨c5, H⟩
  · have hk := hk.lit 3 c5 rfl
    refine cnd_true hk rfl rfl ?_
    apply wp_seq_k; intro K6 hK6
    apply wp_region_lit
    refine sa _ rfl hk rfl rfl rfl fun a hk => ?_
    show wpList _ _ _ [] _ _
    refine wpList_nil ?_
    refine hK6 _ _ ?_
    refine wp_ret ?_
    obtain rfl := Option.some.inj H
    exact fin hk _ [(.int .i64 18)] rfl ⟨rfl, trivial⟩ ⟨rfl, (hs.pick [] rfl).dnil⟩
  · have hk := hk.lit 3 c5 rfl
    refine cnd_false hk rfl rfl ?_
    apply wp_seq_k; intro K7 hK7
    apply wp_region_lit
    refine sf ⟨b2, 10, none⟩ rfl hk rfl rfl rfl fd37_3 rfl fun a hk => ?_
    refine sl rfl hk rfl rfl rfl ag4 (box_cell hs (k := 3) rfl rfl) fun a hk => ?_
    refine sv (.bool (!x0.Up)) hk rfl rfl rfl fun a hk => ?_
    refine sa _ rfl hk rfl rfl rfl fun a hk => ?_
    show wpList _ _ _ [] _ _
    refine wpList_nil ?_
    refine hK7 _ _ ?_
    rcases cond_some H with ⟨c8, H⟩ | ⟨c8, H⟩
    · have hk := hk.lit 6 c8 rfl
      refine cnd_true hk rfl rfl ?_
      apply wp_seq_k; intro K9 hK9
      apply wp_region_lit
      refine sa _ rfl hk rfl rfl rfl fun a hk => ?_
      show wpList _ _ _ [] _ _
      refine wpList_nil ?_
      refine hK9 _ _ ?_
      refine wp_ret ?_
      obtain rfl := Option.some.inj H
      exact fin hk _ [(.int .i64 16)] rfl ⟨rfl, trivial⟩ ⟨rfl, (hs.pick [] rfl).dnil⟩
    · have hk := hk.lit 6 c8 rfl
      refine cnd_false hk rfl rfl ?_
      refine wp_skip ?_
      refine hK3 _ _ ?_
      apply wp_seq_k; intro K10 hK10
      apply wp_region_lit
      refine sa _ rfl hk rfl rfl rfl fun a hk => ?_
      show wpList _ _ _ [] _ _
      refine wpList_nil ?_
      refine hK10 _ _ ?_
      refine wp_ret ?_
      obtain rfl := Option.some.inj H
      exact fin hk _ [(.int .i64 0)] rfl ⟨rfl, trivial⟩ ⟨rfl, (hs.pick [] rfl).dnil⟩

noncomputable def impl_Store_own.f (x0 : S_Store) : Option (S_Store) :=
  ((impl_Device_own.f x0.Device).bind fun y5 => (some (⟨x0.Key, x0.Reg, y5, x0.Up, x0.Dead⟩ : S_Store)))
set_option maxRecDepth 100000 in
set_option maxHeartbeats 0 in
theorem impl_Store_own_t (w0 : World) (x0 : S_Store) (A0_0 : Option Addr) (p0_0 : Nat) (k0_0 : Chunk) (v0_0 : View Lay.str A0_0 p0_0 x0.Device.Sure k0_0) (w0_0 : Has w0 k0_0) (A0_1 : Option Addr) (p0_1 : Nat) (k0_1 : Chunk) (v0_1 : View L_Io A0_1 p0_1 x0.Device.Unsure k0_1) (w0_1 : Has w0 k0_1) (r : S_Store) (H : impl_Store_own.f x0 = some r) :
    Calls Try.prog 94 #[.agg #[.string x0.Key, .int .i64 x0.Reg.Epoch, .int .i64 x0.Reg.Side, .int .i64 x0.Reg.Count, .int .i64 x0.Reg.Boot, .string x0.Reg.Base, .string x0.Reg.Tip, .string x0.Reg.Root, .slice A0_0 x0.Device.Sure.length p0_0, .slice A0_1 x0.Device.Unsure.length p0_1, .bool x0.Up, .bool x0.Dead]] w0 (Ret (fun v w => ∃ (A0 : Option Addr) (p0 : Nat) (k0 : Chunk), ∃ (A1 : Option Addr) (p1 : Nat) (k1 : Chunk), v = .agg #[.string r.Key, .int .i64 r.Reg.Epoch, .int .i64 r.Reg.Side, .int .i64 r.Reg.Count, .int .i64 r.Reg.Boot, .string r.Reg.Base, .string r.Reg.Tip, .string r.Reg.Root, .slice A0 r.Device.Sure.length p0, .slice A1 r.Device.Unsure.length p1, .bool r.Up, .bool r.Dead] ∧ Own Lay.str 9 A0 p0 r.Device.Sure k0 ∧ Own L_Io 114 A1 p1 r.Device.Unsure k1 ∧ Sat [] w0 w [] [(0, k0), (1, k1)])) := by
  have hs : Sat [] w0 w0 [(1, k0_0), (2, k0_1)] [] := Sat.init w0 [(1, k0_0), (2, k0_1)] [] (by simp only [List.mem_cons, List.not_mem_nil, or_false]; rintro x (rfl | rfl) <;> assumption) (by simp) List.nodup_nil (by simp [blks])
  unfold impl_Store_own.f at H
  refine enter Try.func94 rfl Try.ntmps94 rfl fun a hk => ?_
  apply wp_seq_k; intro K1 hK1
  apply wp_region_lit
  refine sbx 3 hs rfl hk rfl rfl rfl rfl fun b2 w a hk hs => ?_
  refine salx 4 hs rfl hk rfl rfl ze37 rfl fun b3 w a hk hs => ?_
  show wpList _ _ _ [] _ _
  refine wpList_nil ?_
  refine hK1 _ _ ?_
  apply wp_seq_k; intro K4 hK4
  apply wp_region_lit
  refine sf ⟨b2, 8, none⟩ rfl hk rfl rfl rfl fd37_2 rfl fun a hk => ?_
  refine sln [.slice A0_0 x0.Device.Sure.length p0_0, .slice A0_1 x0.Device.Unsure.length p0_1] rfl hk rfl rfl rfl ag35 sz35 (box_part hs (k := 3) rfl rfl) fun a hk => ?_
  obtain ⟨y5, h6, H⟩ := bind_some H
  refine sc rfl en80 hk rfl rfl rfl (impl_Device_own_t _ x0.Device A0_0 p0_0 _ v0_0 (hs.hasD (k := 1) rfl) A0_1 p0_1 _ v0_1 (hs.hasD (k := 2) rfl) _ h6) ?_
  rintro _ w ⟨A7, p8, k9, A11, p12, k13, rfl, o10, o14, hG⟩ a hk
  have hs := hs.call0k hG [5, 6] rfl
  refine sf ⟨b2, 8, none⟩ rfl hk rfl rfl rfl fd37_2 rfl fun a hk => ?_
  refine ssp (cs' := #[.string x0.Key, .int .i64 x0.Reg.Epoch, .int .i64 x0.Reg.Side, .int .i64 x0.Reg.Count, .int .i64 x0.Reg.Boot, .string x0.Reg.Base, .string x0.Reg.Tip, .string x0.Reg.Root, .slice A7 y5.Sure.length p8, .slice A11 y5.Unsure.length p12, .bool x0.Up, .bool x0.Dead]) 3 hs rfl rfl hk rfl rfl rfl rfl sz35 (by simp [Value.oneCell']) rfl rfl fun w a hk hs => ?_
  show wpList _ _ _ [] _ _
  refine wpList_nil ?_
  refine hK4 _ _ ?_
  apply wp_seq_k; intro K15 hK15
  apply wp_region_lit
  refine sln [.string x0.Key, .int .i64 x0.Reg.Epoch, .int .i64 x0.Reg.Side, .int .i64 x0.Reg.Count, .int .i64 x0.Reg.Boot, .string x0.Reg.Base, .string x0.Reg.Tip, .string x0.Reg.Root, .slice A7 y5.Sure.length p8, .slice A11 y5.Unsure.length p12, .bool x0.Up, .bool x0.Dead] rfl hk rfl rfl rfl ag37 sz37 (box_cells hs (k := 3) rfl) fun a hk => ?_
  refine ssw 4 hs rfl rfl hk rfl rfl rfl rfl sz37 (by simp [Value.oneCell']) rfl fun w a hk hs => ?_
  show wpList _ _ _ [] _ _
  refine wpList_nil ?_
  refine hK15 _ _ ?_
  refine wp_ret ?_
  obtain rfl := Option.some.inj H
  exact fin hk _ [(.agg #[.string x0.Key, .int .i64 x0.Reg.Epoch, .int .i64 x0.Reg.Side, .int .i64 x0.Reg.Count, .int .i64 x0.Reg.Boot, .string x0.Reg.Base, .string x0.Reg.Tip, .string x0.Reg.Root, .slice A7 y5.Sure.length p8, .slice A11 y5.Unsure.length p12, .bool x0.Up, .bool x0.Dead])] rfl ⟨⟨_, rfl, run_loadN ag37 sz37 (box_cells hs (k := 4) rfl)⟩, trivial⟩ ⟨A7, p8, _, A11, p12, _, rfl, o10, o14, (hs.pick [(0, 5), (1, 6)] rfl).dnil⟩

noncomputable def impl_Crash.f (x0 : S_Store) : Option (S_Store × Int) :=
  ((impl_StoreOK.f x0).bind fun y6 => (bif (!y6) then (some ((⟨ByteArray.empty, (⟨0, 0, 0, 0, ByteArray.empty, ByteArray.empty, ByteArray.empty⟩ : S_Register), (⟨([] : List ByteArray), ([] : List S_Io)⟩ : S_Device), false, false⟩ : S_Store), 1)) else ((impl_Store_upCode.f x0).bind fun y12 => (bif (y12 != 0) then ((impl_Store_own.f x0).bind fun y17 => (some (y17, y12))) else ((impl_Store_own.f x0).bind fun y28 => (some ((⟨y28.Key, y28.Reg, y28.Device, false, y28.Dead⟩ : S_Store), 0)))))))
set_option maxRecDepth 100000 in
set_option maxHeartbeats 0 in
theorem impl_Crash_t (w0 : World) (x0 : S_Store) (A0_0 : Option Addr) (p0_0 : Nat) (k0_0 : Chunk) (v0_0 : View Lay.str A0_0 p0_0 x0.Device.Sure k0_0) (w0_0 : Has w0 k0_0) (A0_1 : Option Addr) (p0_1 : Nat) (k0_1 : Chunk) (v0_1 : View L_Io A0_1 p0_1 x0.Device.Unsure k0_1) (w0_1 : Has w0 k0_1) (r : S_Store × Int) (H : impl_Crash.f x0 = some r) :
    Calls Try.prog 38 #[.agg #[.string x0.Key, .int .i64 x0.Reg.Epoch, .int .i64 x0.Reg.Side, .int .i64 x0.Reg.Count, .int .i64 x0.Reg.Boot, .string x0.Reg.Base, .string x0.Reg.Tip, .string x0.Reg.Root, .slice A0_0 x0.Device.Sure.length p0_0, .slice A0_1 x0.Device.Unsure.length p0_1, .bool x0.Up, .bool x0.Dead]] w0 (Ret (fun v w => ∃ (A0 : Option Addr) (p0 : Nat) (k0 : Chunk), ∃ (A1 : Option Addr) (p1 : Nat) (k1 : Chunk), v = .tuple #[.agg #[.string r.1.Key, .int .i64 r.1.Reg.Epoch, .int .i64 r.1.Reg.Side, .int .i64 r.1.Reg.Count, .int .i64 r.1.Reg.Boot, .string r.1.Reg.Base, .string r.1.Reg.Tip, .string r.1.Reg.Root, .slice A0 r.1.Device.Sure.length p0, .slice A1 r.1.Device.Unsure.length p1, .bool r.1.Up, .bool r.1.Dead], .int .i64 r.2] ∧ Own Lay.str 9 A0 p0 r.1.Device.Sure k0 ∧ Own L_Io 114 A1 p1 r.1.Device.Unsure k1 ∧ Sat [] w0 w [] [(0, k0), (1, k1)])) := by
  have hs : Sat [] w0 w0 [(1, k0_0), (2, k0_1)] [] := Sat.init w0 [(1, k0_0), (2, k0_1)] [] (by simp only [List.mem_cons, List.not_mem_nil, or_false]; rintro x (rfl | rfl) <;> assumption) (by simp) List.nodup_nil (by simp [blks])
  unfold impl_Crash.f at H
  refine enter Try.func38 rfl Try.ntmps38 rfl fun a hk => ?_
  apply wp_seq_k; intro K1 hK1
  apply wp_region_lit
  refine sbx 3 hs rfl hk rfl rfl rfl rfl fun b2 w a hk hs => ?_
  refine salx 4 hs rfl hk rfl rfl ze37 rfl fun b3 w a hk hs => ?_
  refine sa _ rfl hk rfl rfl rfl fun a hk => ?_
  show wpList _ _ _ [] _ _
  refine wpList_nil ?_
  refine hK1 _ _ ?_
  apply wp_seq_k; intro K4 hK4
  apply wp_seq_k; intro K5 hK5
  apply wp_region_lit
  refine sln [.string x0.Key, .int .i64 x0.Reg.Epoch, .int .i64 x0.Reg.Side, .int .i64 x0.Reg.Count, .int .i64 x0.Reg.Boot, .string x0.Reg.Base, .string x0.Reg.Tip, .string x0.Reg.Root, .slice A0_0 x0.Device.Sure.length p0_0, .slice A0_1 x0.Device.Unsure.length p0_1, .bool x0.Up, .bool x0.Dead] rfl hk rfl rfl rfl ag37 sz37 (box_cells hs (k := 3) rfl) fun a hk => ?_
  obtain ⟨y6, h7, H⟩ := bind_some H
  refine sc rfl en17 hk rfl rfl rfl (impl_StoreOK_t _ x0 A0_0 p0_0 _ v0_0 (hs.hasD (k := 1) rfl) A0_1 p0_1 _ v0_1 (hs.hasD (k := 2) rfl) _ h7) ?_
  rintro _ w ⟨rfl, hG⟩ a hk
  have hs := hs.call0 hG
  refine sv (.bool (!y6)) hk rfl rfl rfl fun a hk => ?_
  show wpList _ _ _ [] _ _
  refine wpList_nil ?_
  refine hK5 _ _ ?_
  rcases cond_some H with ⟨c8, H⟩ | ⟨c8, H⟩
  · have hk := hk.lit 8 c8 rfl
    refine cnd_true hk rfl rfl ?_
    apply wp_seq_k; intro K9 hK9
    apply wp_region_lit
    refine sbd (pv := []) rfl hk rfl rfl rfl bd37_6 fun a hk => ?_
    refine ssw 4 hs rfl rfl hk rfl rfl rfl rfl sz37 (by simp [Value.oneCell']) rfl fun w a hk hs => ?_
    refine sa _ rfl hk rfl rfl rfl fun a hk => ?_
    show wpList _ _ _ [] _ _
    refine wpList_nil ?_
    refine hK9 _ _ ?_
    refine wp_ret ?_
    obtain rfl := Option.some.inj H
    have hs := hs.addNil 5
    have hs := hs.addNil 6
    exact fin hk _ [(.agg #[.string ByteArray.empty, .int .i64 0, .int .i64 0, .int .i64 0, .int .i64 0, .string ByteArray.empty, .string ByteArray.empty, .string ByteArray.empty, .slice none 0 0, .slice none 0 0, .bool false, .bool false]), (.int .i64 1)] rfl ⟨⟨_, rfl, run_loadN ag37 sz37 (box_cells hs (k := 4) rfl)⟩, ⟨rfl, trivial⟩⟩ ⟨none, 0, [], none, 0, [], rfl, Own.nil _ _, Own.nil _ _, (hs.pick [(0, 5), (1, 6)] rfl).dnil⟩
  · have hk := hk.lit 8 c8 rfl
    refine cnd_false hk rfl rfl ?_
    refine wp_skip ?_
    refine hK4 _ _ ?_
    apply wp_seq_k; intro K10 hK10
    apply wp_seq_k; intro K11 hK11
    apply wp_region_lit
    refine sln [.string x0.Key, .int .i64 x0.Reg.Epoch, .int .i64 x0.Reg.Side, .int .i64 x0.Reg.Count, .int .i64 x0.Reg.Boot, .string x0.Reg.Base, .string x0.Reg.Tip, .string x0.Reg.Root, .slice A0_0 x0.Device.Sure.length p0_0, .slice A0_1 x0.Device.Unsure.length p0_1, .bool x0.Up, .bool x0.Dead] rfl hk rfl rfl rfl ag37 sz37 (box_cells hs (k := 3) rfl) fun a hk => ?_
    obtain ⟨y12, h13, H⟩ := bind_some H
    refine sc rfl en93 hk rfl rfl rfl (impl_Store_upCode_t _ x0 A0_0 p0_0 _ v0_0 (hs.hasD (k := 1) rfl) A0_1 p0_1 _ v0_1 (hs.hasD (k := 2) rfl) _ h13) ?_
    rintro _ w ⟨rfl, hG⟩ a hk
    have hs := hs.call0 hG
    refine sa _ rfl hk rfl rfl rfl fun a hk => ?_
    show wpList _ _ _ [] _ _
    refine wpList_nil ?_
    refine hK11 _ _ ?_
    apply wp_seq_k; intro K14 hK14
    apply wp_region_lit
    refine sm _ rfl hk rfl rfl rfl fun a hk => ?_
    refine sv (.bool (y12 != 0)) hk rfl rfl rfl fun a hk => ?_
    show wpList _ _ _ [] _ _
    refine wpList_nil ?_
    refine hK14 _ _ ?_
    rcases cond_some H with ⟨c15, H⟩ | ⟨c15, H⟩
    · have hk := hk.lit 13 c15 rfl
      refine cnd_true hk rfl rfl ?_
      apply wp_seq_k; intro K16 hK16
      apply wp_region_lit
      refine sln [.string x0.Key, .int .i64 x0.Reg.Epoch, .int .i64 x0.Reg.Side, .int .i64 x0.Reg.Count, .int .i64 x0.Reg.Boot, .string x0.Reg.Base, .string x0.Reg.Tip, .string x0.Reg.Root, .slice A0_0 x0.Device.Sure.length p0_0, .slice A0_1 x0.Device.Unsure.length p0_1, .bool x0.Up, .bool x0.Dead] rfl hk rfl rfl rfl ag37 sz37 (box_cells hs (k := 3) rfl) fun a hk => ?_
      obtain ⟨y17, h18, H⟩ := bind_some H
      refine sc rfl en94 hk rfl rfl rfl (impl_Store_own_t _ x0 A0_0 p0_0 _ v0_0 (hs.hasD (k := 1) rfl) A0_1 p0_1 _ v0_1 (hs.hasD (k := 2) rfl) _ h18) ?_
      rintro _ w ⟨A19, p20, k21, A23, p24, k25, rfl, o22, o26, hG⟩ a hk
      have hs := hs.call0k hG [7, 8] rfl
      refine sm _ rfl hk rfl rfl rfl fun a hk => ?_
      refine ssw 4 hs rfl rfl hk rfl rfl rfl rfl sz37 (by simp [Value.oneCell']) rfl fun w a hk hs => ?_
      refine sa _ rfl hk rfl rfl rfl fun a hk => ?_
      show wpList _ _ _ [] _ _
      refine wpList_nil ?_
      refine hK16 _ _ ?_
      refine wp_ret ?_
      obtain rfl := Option.some.inj H
      exact fin hk _ [(.agg #[.string y17.Key, .int .i64 y17.Reg.Epoch, .int .i64 y17.Reg.Side, .int .i64 y17.Reg.Count, .int .i64 y17.Reg.Boot, .string y17.Reg.Base, .string y17.Reg.Tip, .string y17.Reg.Root, .slice A19 y17.Device.Sure.length p20, .slice A23 y17.Device.Unsure.length p24, .bool y17.Up, .bool y17.Dead]), (.int .i64 y12)] rfl ⟨⟨_, rfl, run_loadN ag37 sz37 (box_cells hs (k := 4) rfl)⟩, ⟨rfl, trivial⟩⟩ ⟨A19, p20, _, A23, p24, _, rfl, o22, o26, (hs.pick [(0, 7), (1, 8)] rfl).dnil⟩
    · have hk := hk.lit 13 c15 rfl
      refine cnd_false hk rfl rfl ?_
      refine wp_skip ?_
      refine hK10 _ _ ?_
      apply wp_seq_k; intro K27 hK27
      apply wp_region_lit
      refine sln [.string x0.Key, .int .i64 x0.Reg.Epoch, .int .i64 x0.Reg.Side, .int .i64 x0.Reg.Count, .int .i64 x0.Reg.Boot, .string x0.Reg.Base, .string x0.Reg.Tip, .string x0.Reg.Root, .slice A0_0 x0.Device.Sure.length p0_0, .slice A0_1 x0.Device.Unsure.length p0_1, .bool x0.Up, .bool x0.Dead] rfl hk rfl rfl rfl ag37 sz37 (box_cells hs (k := 3) rfl) fun a hk => ?_
      obtain ⟨y28, h29, H⟩ := bind_some H
      refine sc rfl en94 hk rfl rfl rfl (impl_Store_own_t _ x0 A0_0 p0_0 _ v0_0 (hs.hasD (k := 1) rfl) A0_1 p0_1 _ v0_1 (hs.hasD (k := 2) rfl) _ h29) ?_
      rintro _ w ⟨A30, p31, k32, A34, p35, k36, rfl, o33, o37, hG⟩ a hk
      have hs := hs.call0k hG [9, 10] rfl
      refine salx 11 hs rfl hk rfl rfl ze37 rfl fun b38 w a hk hs => ?_
      refine ssw 11 hs rfl rfl hk rfl rfl rfl rfl sz37 (by simp [Value.oneCell']) rfl fun w a hk hs => ?_
      show wpList _ _ _ [] _ _
      refine wpList_nil ?_
      refine hK27 _ _ ?_
      apply wp_seq_k; intro K39 hK39
      apply wp_region_lit
      refine sf ⟨b38, 10, none⟩ rfl hk rfl rfl rfl fd37_3 rfl fun a hk => ?_
      refine ssx (cs' := #[.string y28.Key, .int .i64 y28.Reg.Epoch, .int .i64 y28.Reg.Side, .int .i64 y28.Reg.Count, .int .i64 y28.Reg.Boot, .string y28.Reg.Base, .string y28.Reg.Tip, .string y28.Reg.Root, .slice A30 y28.Device.Sure.length p31, .slice A34 y28.Device.Unsure.length p35, .bool false, .bool y28.Dead]) 11 hs rfl rfl hk rfl rfl rfl rfl sz4 rfl rfl rfl rfl fun w a hk hs => ?_
      show wpList _ _ _ [] _ _
      refine wpList_nil ?_
      refine hK39 _ _ ?_
      apply wp_seq_k; intro K40 hK40
      apply wp_region_lit
      refine sln [.string y28.Key, .int .i64 y28.Reg.Epoch, .int .i64 y28.Reg.Side, .int .i64 y28.Reg.Count, .int .i64 y28.Reg.Boot, .string y28.Reg.Base, .string y28.Reg.Tip, .string y28.Reg.Root, .slice A30 y28.Device.Sure.length p31, .slice A34 y28.Device.Unsure.length p35, .bool false, .bool y28.Dead] rfl hk rfl rfl rfl ag37 sz37 (box_cells hs (k := 11) rfl) fun a hk => ?_
      refine ssw 4 hs rfl rfl hk rfl rfl rfl rfl sz37 (by simp [Value.oneCell']) rfl fun w a hk hs => ?_
      refine sa _ rfl hk rfl rfl rfl fun a hk => ?_
      show wpList _ _ _ [] _ _
      refine wpList_nil ?_
      refine hK40 _ _ ?_
      refine wp_ret ?_
      obtain rfl := Option.some.inj H
      exact fin hk _ [(.agg #[.string y28.Key, .int .i64 y28.Reg.Epoch, .int .i64 y28.Reg.Side, .int .i64 y28.Reg.Count, .int .i64 y28.Reg.Boot, .string y28.Reg.Base, .string y28.Reg.Tip, .string y28.Reg.Root, .slice A30 y28.Device.Sure.length p31, .slice A34 y28.Device.Unsure.length p35, .bool false, .bool y28.Dead]), (.int .i64 0)] rfl ⟨⟨_, rfl, run_loadN ag37 sz37 (box_cells hs (k := 4) rfl)⟩, ⟨rfl, trivial⟩⟩ ⟨A30, p31, _, A34, p35, _, rfl, o33, o37, (hs.pick [(0, 9), (1, 10)] rfl).dnil⟩

noncomputable def laws_markStore.f (x0 : S_Store) (x1 : Int) : Option (Int × (List ByteArray) × (List S_Io)) :=
  ((laws_markDevice.f x0.Device x1).bind fun y4 => (some (y4.1, y4.2.1, y4.2.2)))
set_option maxRecDepth 100000 in
set_option maxHeartbeats 0 in
theorem laws_markStore_t (w0 : World) (x0 : S_Store) (A0_0 : Option Addr) (p0_0 : Nat) (k0_0 : Chunk) (v0_0 : Own Lay.str 9 A0_0 p0_0 x0.Device.Sure k0_0) (A0_1 : Option Addr) (p0_1 : Nat) (k0_1 : Chunk) (v0_1 : Own L_Io 114 A0_1 p0_1 x0.Device.Unsure k0_1) (x1 : Int) (hs0 : Sat (blks [(1, k0_0), (2, k0_1)]) w0 w0 [] [(1, k0_0), (2, k0_1)]) (r : Int × (List ByteArray) × (List S_Io)) (H : laws_markStore.f x0 x1 = some r) :
    Calls Try.prog 39 #[.agg #[.string x0.Key, .int .i64 x0.Reg.Epoch, .int .i64 x0.Reg.Side, .int .i64 x0.Reg.Count, .int .i64 x0.Reg.Boot, .string x0.Reg.Base, .string x0.Reg.Tip, .string x0.Reg.Root, .slice A0_0 x0.Device.Sure.length p0_0, .slice A0_1 x0.Device.Unsure.length p0_1, .bool x0.Up, .bool x0.Dead], .int .i64 x1] w0 (Ret (fun v w => ∃ (k0 : Chunk), ∃ (k1 : Chunk), v = .int .i64 r.1 ∧ (Own Lay.str 9 A0_0 p0_0 r.2.1 k0 ∧ r.2.1.length = x0.Device.Sure.length) ∧ (Own L_Io 114 A0_1 p0_1 r.2.2 k1 ∧ r.2.2.length = x0.Device.Unsure.length) ∧ Sat (blks [(1, k0_0), (2, k0_1)]) w0 w [] [(0, k0), (1, k1)])) := by
  have hs := hs0
  unfold laws_markStore.f at H
  refine enter Try.func39 rfl Try.ntmps39 rfl fun a hk => ?_
  apply wp_seq_k; intro K1 hK1
  apply wp_region_lit
  refine sbx 3 hs rfl hk rfl rfl rfl rfl fun b2 w a hk hs => ?_
  refine sa _ rfl hk rfl rfl rfl fun a hk => ?_
  show wpList _ _ _ [] _ _
  refine wpList_nil ?_
  refine hK1 _ _ ?_
  apply wp_seq_k; intro K3 hK3
  apply wp_region_lit
  refine sf ⟨b2, 8, none⟩ rfl hk rfl rfl rfl fd37_2 rfl fun a hk => ?_
  refine sln [.slice A0_0 x0.Device.Sure.length p0_0, .slice A0_1 x0.Device.Unsure.length p0_1] rfl hk rfl rfl rfl ag35 sz35 (box_part hs (k := 3) rfl rfl) fun a hk => ?_
  refine sm _ rfl hk rfl rfl rfl fun a hk => ?_
  obtain ⟨y4, h5, H⟩ := bind_some H
  refine sc rfl en33 hk rfl rfl rfl (laws_markDevice_t _ x0.Device A0_0 p0_0 _ v0_0 A0_1 p0_1 _ v0_1 x1 ((hs.hand [(1, 1), (2, 2)] rfl).dpick [] rfl) _ h5) ?_
  rintro _ w ⟨k6, k9, rfl, ⟨o7, lh8⟩, ⟨o10, lh11⟩, hG⟩ a hk
  have hs := hs.back [(1, 1), (2, 2)] rfl hG [1, 2] rfl
  have lh12 : y4.2.1.length = x0.Device.Sure.length := lh8
  have lh13 : y4.2.2.length = x0.Device.Unsure.length := lh11
  refine sa _ rfl hk rfl rfl rfl fun a hk => ?_
  show wpList _ _ _ [] _ _
  refine wpList_nil ?_
  refine hK3 _ _ ?_
  apply wp_seq_k; intro K14 hK14
  apply wp_region_lit
  refine sm _ rfl hk rfl rfl rfl fun a hk => ?_
  refine sa _ rfl hk rfl rfl rfl fun a hk => ?_
  show wpList _ _ _ [] _ _
  refine wpList_nil ?_
  refine hK14 _ _ ?_
  refine wp_ret ?_
  obtain rfl := Option.some.inj H
  exact fin hk _ [(.int .i64 y4.1)] rfl ⟨rfl, trivial⟩ ⟨_, _, rfl, ⟨o7, lh12⟩, ⟨o10, lh13⟩, (hs.pick [(0, 1), (1, 2)] rfl).dnil⟩

noncomputable def laws_heldStore.f (x0 : S_Store) (x1 : Int) : Option (Int) :=
  ((laws_heldDevice.f x0.Device x1).bind fun y4 => (bif (decide (y4 < 0)) then (some (-1)) else (some y4)))
set_option maxRecDepth 100000 in
set_option maxHeartbeats 0 in
theorem laws_heldStore_t (w0 : World) (x0 : S_Store) (A0_0 : Option Addr) (p0_0 : Nat) (k0_0 : Chunk) (v0_0 : View Lay.str A0_0 p0_0 x0.Device.Sure k0_0) (w0_0 : Has w0 k0_0) (A0_1 : Option Addr) (p0_1 : Nat) (k0_1 : Chunk) (v0_1 : View L_Io A0_1 p0_1 x0.Device.Unsure k0_1) (w0_1 : Has w0 k0_1) (x1 : Int) (r : Int) (H : laws_heldStore.f x0 x1 = some r) :
    Calls Try.prog 40 #[.agg #[.string x0.Key, .int .i64 x0.Reg.Epoch, .int .i64 x0.Reg.Side, .int .i64 x0.Reg.Count, .int .i64 x0.Reg.Boot, .string x0.Reg.Base, .string x0.Reg.Tip, .string x0.Reg.Root, .slice A0_0 x0.Device.Sure.length p0_0, .slice A0_1 x0.Device.Unsure.length p0_1, .bool x0.Up, .bool x0.Dead], .int .i64 x1] w0 (Ret (fun v w => v = .int .i64 r ∧ Sat [] w0 w [] [])) := by
  have hs : Sat [] w0 w0 [(1, k0_0), (2, k0_1)] [] := Sat.init w0 [(1, k0_0), (2, k0_1)] [] (by simp only [List.mem_cons, List.not_mem_nil, or_false]; rintro x (rfl | rfl) <;> assumption) (by simp) List.nodup_nil (by simp [blks])
  unfold laws_heldStore.f at H
  refine enter Try.func40 rfl Try.ntmps40 rfl fun a hk => ?_
  apply wp_seq_k; intro K1 hK1
  apply wp_region_lit
  refine sbx 3 hs rfl hk rfl rfl rfl rfl fun b2 w a hk hs => ?_
  refine sa _ rfl hk rfl rfl rfl fun a hk => ?_
  show wpList _ _ _ [] _ _
  refine wpList_nil ?_
  refine hK1 _ _ ?_
  apply wp_seq_k; intro K3 hK3
  apply wp_region_lit
  refine sf ⟨b2, 8, none⟩ rfl hk rfl rfl rfl fd37_2 rfl fun a hk => ?_
  refine sln [.slice A0_0 x0.Device.Sure.length p0_0, .slice A0_1 x0.Device.Unsure.length p0_1] rfl hk rfl rfl rfl ag35 sz35 (box_part hs (k := 3) rfl rfl) fun a hk => ?_
  refine sm _ rfl hk rfl rfl rfl fun a hk => ?_
  obtain ⟨y4, h5, H⟩ := bind_some H
  refine sc rfl en34 hk rfl rfl rfl (laws_heldDevice_t _ x0.Device A0_0 p0_0 _ v0_0 (hs.hasD (k := 1) rfl) A0_1 p0_1 _ v0_1 (hs.hasD (k := 2) rfl) x1 _ h5) ?_
  rintro _ w ⟨rfl, hG⟩ a hk
  have hs := hs.call0 hG
  refine sa _ rfl hk rfl rfl rfl fun a hk => ?_
  show wpList _ _ _ [] _ _
  refine wpList_nil ?_
  refine hK3 _ _ ?_
  apply wp_seq_k; intro K6 hK6
  apply wp_seq_k; intro K7 hK7
  apply wp_region_lit
  refine sm _ rfl hk rfl rfl rfl fun a hk => ?_
  refine sv (.bool (decide (y4 < 0))) hk rfl rfl rfl fun a hk => ?_
  show wpList _ _ _ [] _ _
  refine wpList_nil ?_
  refine hK7 _ _ ?_
  rcases cond_some H with ⟨c8, H⟩ | ⟨c8, H⟩
  · have hk := hk.lit 10 c8 rfl
    refine cnd_true hk rfl rfl ?_
    apply wp_seq_k; intro K9 hK9
    apply wp_region_lit
    refine sa _ rfl hk rfl rfl rfl fun a hk => ?_
    show wpList _ _ _ [] _ _
    refine wpList_nil ?_
    refine hK9 _ _ ?_
    refine wp_ret ?_
    obtain rfl := Option.some.inj H
    exact fin hk _ [(.int .i64 (-1))] rfl ⟨rfl, trivial⟩ ⟨rfl, (hs.pick [] rfl).dnil⟩
  · have hk := hk.lit 10 c8 rfl
    refine cnd_false hk rfl rfl ?_
    refine wp_skip ?_
    refine hK6 _ _ ?_
    apply wp_seq_k; intro K10 hK10
    apply wp_region_lit
    refine sm _ rfl hk rfl rfl rfl fun a hk => ?_
    refine sa _ rfl hk rfl rfl rfl fun a hk => ?_
    show wpList _ _ _ [] _ _
    refine wpList_nil ?_
    refine hK10 _ _ ?_
    refine wp_ret ?_
    obtain rfl := Option.some.inj H
    exact fin hk _ [(.int .i64 y4)] rfl ⟨rfl, trivial⟩ ⟨rfl, (hs.pick [] rfl).dnil⟩

noncomputable def laws_FnExactCrash.f (x0 : S_Store) : Option (Bool) :=
  ((laws_szStore.f x0 1048576).bind fun y5 => (bif (decide (y5 < 0)) then (some true) else ((laws_toStore.f x0).bind fun y12 => ((spec_Crash.f y12).bind fun y22 => ((laws_toStore.f x0).bind fun y34 => ((impl_Crash.f y34).bind fun y46 => ((((laws_eqStore.f y46.1 y22.1).bind fun y65 => (bif (!y65) then (some true) else (some (y46.2 != y22.2)))) : Option (Bool)).bind fun u60 => (bif u60 then (some false) else ((laws_toStore.f x0).bind fun y73 => ((laws_eqStore.f y34 y73).bind fun y84 => (bif (!y84) then (some false) else ((laws_markStore.f y34 1).bind fun y91 => (((bif (decide (y91.1 < 0)) then (some true) else ((laws_eqStore.f y46.1 y22.1).bind fun y110 => (bif (!y110) then (some true) else (some (y46.2 != y22.2))))) : Option (Bool)).bind fun u104 => (bif u104 then (some false) else ((laws_markStore.f y46.1 1).bind fun y117 => ((laws_heldStore.f (⟨y46.1.Key, y46.1.Reg, (⟨y117.2.1, y117.2.2⟩ : S_Device), y46.1.Up, y46.1.Dead⟩ : S_Store) 1).bind fun y129 => (bif (decide (y129 < 0)) then (some false) else (bif (y129 != y117.1) then (some false) else ((laws_toStore.f x0).bind fun y140 => ((impl_Crash.f y140).bind fun y150 => ((((laws_eqStore.f y150.1 y22.1).bind fun y169 => (bif (!y169) then (some true) else (some (y150.2 != y22.2)))) : Option (Bool)).bind fun u164 => (bif u164 then (some false) else ((laws_heldStore.f (⟨y46.1.Key, y46.1.Reg, (⟨y117.2.1, y117.2.2⟩ : S_Device), y46.1.Up, y46.1.Dead⟩ : S_Store) 1).bind fun y176 => (bif (decide (y176 < 0)) then (some false) else (bif (y176 != y117.1) then (some false) else (some true))))))))))))))))))))))))))
set_option maxRecDepth 100000 in
set_option maxHeartbeats 0 in
theorem laws_FnExactCrash_t (w0 : World) (x0 : S_Store) (A0_0 : Option Addr) (p0_0 : Nat) (k0_0 : Chunk) (v0_0 : View Lay.str A0_0 p0_0 x0.Device.Sure k0_0) (w0_0 : Has w0 k0_0) (A0_1 : Option Addr) (p0_1 : Nat) (k0_1 : Chunk) (v0_1 : View L_Io A0_1 p0_1 x0.Device.Unsure k0_1) (w0_1 : Has w0 k0_1) (r : Bool) (H : laws_FnExactCrash.f x0 = some r) :
    Calls Try.prog 9 #[.agg #[.string x0.Key, .int .i64 x0.Reg.Epoch, .int .i64 x0.Reg.Side, .int .i64 x0.Reg.Count, .int .i64 x0.Reg.Boot, .string x0.Reg.Base, .string x0.Reg.Tip, .string x0.Reg.Root, .slice A0_0 x0.Device.Sure.length p0_0, .slice A0_1 x0.Device.Unsure.length p0_1, .bool x0.Up, .bool x0.Dead]] w0 (Ret (fun v w => v = .bool r ∧ Sat [] w0 w [] [])) := by
  have hs : Sat [] w0 w0 [(1, k0_0), (2, k0_1)] [] := Sat.init w0 [(1, k0_0), (2, k0_1)] [] (by simp only [List.mem_cons, List.not_mem_nil, or_false]; rintro x (rfl | rfl) <;> assumption) (by simp) List.nodup_nil (by simp [blks])
  unfold laws_FnExactCrash.f at H
  refine enter Try.func9 rfl Try.ntmps9 rfl fun a hk => ?_
  apply wp_seq_k; intro K1 hK1
  apply wp_region_lit
  refine sbx 3 hs rfl hk rfl rfl rfl rfl fun b2 w a hk hs => ?_
  refine sa _ rfl hk rfl rfl rfl fun a hk => ?_
  show wpList _ _ _ [] _ _
  refine wpList_nil ?_
  refine hK1 _ _ ?_
  apply wp_seq_k; intro K3 hK3
  apply wp_region_lit
  refine sa _ rfl hk rfl rfl rfl fun a hk => ?_
  show wpList _ _ _ [] _ _
  refine wpList_nil ?_
  refine hK3 _ _ ?_
  apply wp_seq_k; intro K4 hK4
  apply wp_region_lit
  refine sln [.string x0.Key, .int .i64 x0.Reg.Epoch, .int .i64 x0.Reg.Side, .int .i64 x0.Reg.Count, .int .i64 x0.Reg.Boot, .string x0.Reg.Base, .string x0.Reg.Tip, .string x0.Reg.Root, .slice A0_0 x0.Device.Sure.length p0_0, .slice A0_1 x0.Device.Unsure.length p0_1, .bool x0.Up, .bool x0.Dead] rfl hk rfl rfl rfl ag29 sz29 (box_cells hs (k := 3) rfl) fun a hk => ?_
  refine sm _ rfl hk rfl rfl rfl fun a hk => ?_
  obtain ⟨y5, h6, H⟩ := bind_some H
  refine sc rfl en11 hk rfl rfl rfl (laws_szStore_t _ x0 A0_0 p0_0 _ v0_0 (hs.hasD (k := 1) rfl) A0_1 p0_1 _ v0_1 (hs.hasD (k := 2) rfl) 1048576 _ h6) ?_
  rintro _ w ⟨rfl, hG⟩ a hk
  have hs := hs.call0 hG
  refine sa _ rfl hk rfl rfl rfl fun a hk => ?_
  show wpList _ _ _ [] _ _
  refine wpList_nil ?_
  refine hK4 _ _ ?_
  apply wp_seq_k; intro K7 hK7
  apply wp_seq_k; intro K8 hK8
  apply wp_region_lit
  refine sm _ rfl hk rfl rfl rfl fun a hk => ?_
  refine sv (.bool (decide (y5 < 0))) hk rfl rfl rfl fun a hk => ?_
  show wpList _ _ _ [] _ _
  refine wpList_nil ?_
  refine hK8 _ _ ?_
  rcases cond_some H with ⟨c9, H⟩ | ⟨c9, H⟩
  · have hk := hk.lit 18 c9 rfl
    refine cnd_true hk rfl rfl ?_
    apply wp_seq_k; intro K10 hK10
    apply wp_region_lit
    refine sa _ rfl hk rfl rfl rfl fun a hk => ?_
    show wpList _ _ _ [] _ _
    refine wpList_nil ?_
    refine hK10 _ _ ?_
    refine wp_ret ?_
    obtain rfl := Option.some.inj H
    exact fin hk _ [(.bool true)] rfl ⟨rfl, trivial⟩ ⟨rfl, (hs.pick [] rfl).dnil⟩
  · have hk := hk.lit 18 c9 rfl
    refine cnd_false hk rfl rfl ?_
    refine wp_skip ?_
    refine hK7 _ _ ?_
    apply wp_seq_k; intro K11 hK11
    apply wp_region_lit
    refine sln [.string x0.Key, .int .i64 x0.Reg.Epoch, .int .i64 x0.Reg.Side, .int .i64 x0.Reg.Count, .int .i64 x0.Reg.Boot, .string x0.Reg.Base, .string x0.Reg.Tip, .string x0.Reg.Root, .slice A0_0 x0.Device.Sure.length p0_0, .slice A0_1 x0.Device.Unsure.length p0_1, .bool x0.Up, .bool x0.Dead] rfl hk rfl rfl rfl ag29 sz29 (box_cells hs (k := 3) rfl) fun a hk => ?_
    obtain ⟨y12, h13, H⟩ := bind_some H
    refine sc rfl en13 hk rfl rfl rfl (laws_toStore_t _ x0 A0_0 p0_0 _ v0_0 (hs.hasD (k := 1) rfl) A0_1 p0_1 _ v0_1 (hs.hasD (k := 2) rfl) _ h13) ?_
    rintro _ w ⟨A14, p15, k16, A18, p19, k20, rfl, o17, o21, hG⟩ a hk
    have hs := hs.call0k hG [4, 5] rfl
    obtain ⟨y22, h23, H⟩ := bind_some H
    refine sc rfl en37 hk rfl rfl rfl (spec_Crash_t _ y12 A14 p15 _ o17.view (hs.hasG (k := 4) rfl) A18 p19 _ o21.view (hs.hasG (k := 5) rfl) _ h23) ?_
    rintro _ w ⟨A24, p25, k26, A28, p29, k30, rfl, o27, o31, hG⟩ a hk
    have hs := hs.call0k hG [6, 7] rfl
    refine sm _ rfl hk rfl rfl rfl fun a hk => ?_
    refine sv (.agg #[.string y22.1.Key, .int .i64 y22.1.Reg.Epoch, .int .i64 y22.1.Reg.Side, .int .i64 y22.1.Reg.Count, .int .i64 y22.1.Reg.Boot, .string y22.1.Reg.Base, .string y22.1.Reg.Tip, .string y22.1.Reg.Root, .slice A24 y22.1.Device.Sure.length p25, .slice A28 y22.1.Device.Unsure.length p29, .bool y22.1.Up, .bool y22.1.Dead]) hk rfl rfl rfl fun a hk => ?_
    refine sv (.int .i64 y22.2) hk rfl rfl rfl fun a hk => ?_
    refine salx 8 hs rfl hk rfl rfl ze37 rfl fun b32 w a hk hs => ?_
    refine ssw 8 hs rfl rfl hk rfl rfl rfl rfl sz37 (by simp [Value.oneCell']) rfl fun w a hk hs => ?_
    refine sa _ rfl hk rfl rfl rfl fun a hk => ?_
    show wpList _ _ _ [] _ _
    refine wpList_nil ?_
    refine hK11 _ _ ?_
    apply wp_seq_k; intro K33 hK33
    apply wp_region_lit
    refine sln [.string x0.Key, .int .i64 x0.Reg.Epoch, .int .i64 x0.Reg.Side, .int .i64 x0.Reg.Count, .int .i64 x0.Reg.Boot, .string x0.Reg.Base, .string x0.Reg.Tip, .string x0.Reg.Root, .slice A0_0 x0.Device.Sure.length p0_0, .slice A0_1 x0.Device.Unsure.length p0_1, .bool x0.Up, .bool x0.Dead] rfl hk rfl rfl rfl ag29 sz29 (box_cells hs (k := 3) rfl) fun a hk => ?_
    obtain ⟨y34, h35, H⟩ := bind_some H
    refine sc rfl en13 hk rfl rfl rfl (laws_toStore_t _ x0 A0_0 p0_0 _ v0_0 (hs.hasD (k := 1) rfl) A0_1 p0_1 _ v0_1 (hs.hasD (k := 2) rfl) _ h35) ?_
    rintro _ w ⟨A36, p37, k38, A40, p41, k42, rfl, o39, o43, hG⟩ a hk
    have hs := hs.call0k hG [9, 10] rfl
    refine salx 11 hs rfl hk rfl rfl ze37 rfl fun b44 w a hk hs => ?_
    refine ssw 11 hs rfl rfl hk rfl rfl rfl rfl sz37 (by simp [Value.oneCell']) rfl fun w a hk hs => ?_
    show wpList _ _ _ [] _ _
    refine wpList_nil ?_
    refine hK33 _ _ ?_
    apply wp_seq_k; intro K45 hK45
    apply wp_region_lit
    refine sln [.string y34.Key, .int .i64 y34.Reg.Epoch, .int .i64 y34.Reg.Side, .int .i64 y34.Reg.Count, .int .i64 y34.Reg.Boot, .string y34.Reg.Base, .string y34.Reg.Tip, .string y34.Reg.Root, .slice A36 y34.Device.Sure.length p37, .slice A40 y34.Device.Unsure.length p41, .bool y34.Up, .bool y34.Dead] rfl hk rfl rfl rfl ag37 sz37 (box_cells hs (k := 11) rfl) fun a hk => ?_
    obtain ⟨y46, h47, H⟩ := bind_some H
    refine sc rfl en38 hk rfl rfl rfl (impl_Crash_t _ y34 A36 p37 _ o39.view (hs.hasG (k := 9) rfl) A40 p41 _ o43.view (hs.hasG (k := 10) rfl) _ h47) ?_
    rintro _ w ⟨A48, p49, k50, A52, p53, k54, rfl, o51, o55, hG⟩ a hk
    have hs := hs.call0k hG [12, 13] rfl
    refine sm _ rfl hk rfl rfl rfl fun a hk => ?_
    refine sv (.agg #[.string y46.1.Key, .int .i64 y46.1.Reg.Epoch, .int .i64 y46.1.Reg.Side, .int .i64 y46.1.Reg.Count, .int .i64 y46.1.Reg.Boot, .string y46.1.Reg.Base, .string y46.1.Reg.Tip, .string y46.1.Reg.Root, .slice A48 y46.1.Device.Sure.length p49, .slice A52 y46.1.Device.Unsure.length p53, .bool y46.1.Up, .bool y46.1.Dead]) hk rfl rfl rfl fun a hk => ?_
    refine sv (.int .i64 y46.2) hk rfl rfl rfl fun a hk => ?_
    refine salx 14 hs rfl hk rfl rfl ze37 rfl fun b56 w a hk hs => ?_
    refine ssw 14 hs rfl rfl hk rfl rfl rfl rfl sz37 (by simp [Value.oneCell']) rfl fun w a hk hs => ?_
    refine sa _ rfl hk rfl rfl rfl fun a hk => ?_
    show wpList _ _ _ [] _ _
    refine wpList_nil ?_
    refine hK45 _ _ ?_
    apply wp_seq_k; intro K57 hK57
    apply wp_seq_k; intro K58 hK58
    obtain ⟨o61, h62, HL63⟩ := bind_some H
    clear H
    obtain ⟨R64, hR64⟩ : ∃ R : Act → World → Prop, R = fun a w => ∃ (u60 : Bool), u60 = o61 ∧ Kn [(1, (.pointer (some ⟨b2, 0, none⟩))), (4, (.pointer (some ⟨b32, 0, none⟩))), (5, (.int .i64 y22.2)), (6, (.pointer (some ⟨b44, 0, none⟩))), (7, (.pointer (some ⟨b56, 0, none⟩))), (8, (.int .i64 y46.2)), (40, (.bool u60))] 96 a ∧ Sat [] w0 w [(1, k0_0), (2, k0_1)] [(3, [(b2, .cells #[.string x0.Key, .int .i64 x0.Reg.Epoch, .int .i64 x0.Reg.Side, .int .i64 x0.Reg.Count, .int .i64 x0.Reg.Boot, .string x0.Reg.Base, .string x0.Reg.Tip, .string x0.Reg.Root, .slice A0_0 x0.Device.Sure.length p0_0, .slice A0_1 x0.Device.Unsure.length p0_1, .bool x0.Up, .bool x0.Dead] 29 (0, 0))]), (8, [(b32, .cells #[.string y22.1.Key, .int .i64 y22.1.Reg.Epoch, .int .i64 y22.1.Reg.Side, .int .i64 y22.1.Reg.Count, .int .i64 y22.1.Reg.Boot, .string y22.1.Reg.Base, .string y22.1.Reg.Tip, .string y22.1.Reg.Root, .slice A24 y22.1.Device.Sure.length p25, .slice A28 y22.1.Device.Unsure.length p29, .bool y22.1.Up, .bool y22.1.Dead] 37 (0, 0))]), (6, k26), (7, k30), (11, [(b44, .cells #[.string y34.Key, .int .i64 y34.Reg.Epoch, .int .i64 y34.Reg.Side, .int .i64 y34.Reg.Count, .int .i64 y34.Reg.Boot, .string y34.Reg.Base, .string y34.Reg.Tip, .string y34.Reg.Root, .slice A36 y34.Device.Sure.length p37, .slice A40 y34.Device.Unsure.length p41, .bool y34.Up, .bool y34.Dead] 37 (0, 0))]), (9, k38), (10, k42), (14, [(b56, .cells #[.string y46.1.Key, .int .i64 y46.1.Reg.Epoch, .int .i64 y46.1.Reg.Side, .int .i64 y46.1.Reg.Count, .int .i64 y46.1.Reg.Boot, .string y46.1.Reg.Base, .string y46.1.Reg.Tip, .string y46.1.Reg.Root, .slice A48 y46.1.Device.Sure.length p49, .slice A52 y46.1.Device.Unsure.length p53, .bool y46.1.Up, .bool y46.1.Dead] 37 (0, 0))]), (12, k50), (13, k54)] := ⟨_, rfl⟩
    refine wp_cutq R64 ?_ ?_
    · have H := h62
      apply wp_region_lit
      refine sln [.string y46.1.Key, .int .i64 y46.1.Reg.Epoch, .int .i64 y46.1.Reg.Side, .int .i64 y46.1.Reg.Count, .int .i64 y46.1.Reg.Boot, .string y46.1.Reg.Base, .string y46.1.Reg.Tip, .string y46.1.Reg.Root, .slice A48 y46.1.Device.Sure.length p49, .slice A52 y46.1.Device.Unsure.length p53, .bool y46.1.Up, .bool y46.1.Dead] rfl hk rfl rfl rfl ag37 sz37 (box_cells hs (k := 14) rfl) fun a hk => ?_
      refine sln [.string y22.1.Key, .int .i64 y22.1.Reg.Epoch, .int .i64 y22.1.Reg.Side, .int .i64 y22.1.Reg.Count, .int .i64 y22.1.Reg.Boot, .string y22.1.Reg.Base, .string y22.1.Reg.Tip, .string y22.1.Reg.Root, .slice A24 y22.1.Device.Sure.length p25, .slice A28 y22.1.Device.Unsure.length p29, .bool y22.1.Up, .bool y22.1.Dead] rfl hk rfl rfl rfl ag37 sz37 (box_cells hs (k := 8) rfl) fun a hk => ?_
      obtain ⟨y65, h66, H⟩ := bind_some H
      refine sc rfl en15 hk rfl rfl rfl (laws_eqStore_t _ y46.1 A48 p49 _ o51.view (hs.hasG (k := 12) rfl) A52 p53 _ o55.view (hs.hasG (k := 13) rfl) y22.1 A24 p25 _ o27.view (hs.hasG (k := 6) rfl) A28 p29 _ o31.view (hs.hasG (k := 7) rfl) _ h66) ?_
      rintro _ w ⟨rfl, hG⟩ a hk
      have hs := hs.call0 hG
      refine sv (.bool (!y65)) hk rfl rfl rfl fun a hk => ?_
      refine sm _ rfl hk rfl rfl rfl fun a hk => ?_
      rcases cond_some H with ⟨c67, H⟩ | ⟨c67, H⟩
      · have hk := hk.lit 36 c67 rfl
        refine sk hk rfl rfl rfl fun a hk => ?_
        refine sk hk rfl rfl rfl fun a hk => ?_
        refine sk hk rfl rfl rfl fun a hk => ?_
        refine sv (.bool true) hk rfl rfl rfl fun a hk => ?_
        show wpList _ _ _ [] _ _
        refine wpList_nil ?_
        obtain rfl := Option.some.inj H
        show R64 _ _
        rw [hR64]
        exact ⟨true, rfl, (hk.c 1 rfl (hk.c 4 rfl (hk.c 5 rfl (hk.c 6 rfl (hk.c 7 rfl (hk.c 8 rfl (hk.c 40 rfl hk.k))))))), (hs.pick [(3, 3), (8, 8), (6, 6), (7, 7), (11, 11), (9, 9), (10, 10), (14, 14), (12, 12), (13, 13)] rfl)⟩
      · have hk := hk.lit 36 c67 rfl
        refine sm _ rfl hk rfl rfl rfl fun a hk => ?_
        refine sm _ rfl hk rfl rfl rfl fun a hk => ?_
        refine sv (.bool (y46.2 != y22.2)) hk rfl rfl rfl fun a hk => ?_
        refine sv (.bool (y46.2 != y22.2)) hk rfl rfl rfl fun a hk => ?_
        show wpList _ _ _ [] _ _
        refine wpList_nil ?_
        obtain rfl := Option.some.inj H
        show R64 _ _
        rw [hR64]
        exact ⟨(y46.2 != y22.2), rfl, (hk.c 1 rfl (hk.c 4 rfl (hk.c 5 rfl (hk.c 6 rfl (hk.c 7 rfl (hk.c 8 rfl (hk.c 40 rfl hk.k))))))), (hs.pick [(3, 3), (8, 8), (6, 6), (7, 7), (11, 11), (9, 9), (10, 10), (14, 14), (12, 12), (13, 13)] rfl)⟩
    · intro a w hR0
      rw [hR64] at hR0
      obtain ⟨u60, rfl, hk, hs⟩ := hR0
      have H := HL63
      try dsimp only at H
      refine hK58 _ _ ?_
      rcases cond_some H with ⟨c68, H⟩ | ⟨c68, H⟩
      · have hk := hk.lit 40 c68 rfl
        refine cnd_true hk rfl rfl ?_
        apply wp_seq_k; intro K69 hK69
        apply wp_region_lit
        refine sa _ rfl hk rfl rfl rfl fun a hk => ?_
        show wpList _ _ _ [] _ _
        refine wpList_nil ?_
        refine hK69 _ _ ?_
        refine wp_ret ?_
        obtain rfl := Option.some.inj H
        exact fin hk _ [(.bool false)] rfl ⟨rfl, trivial⟩ ⟨rfl, (hs.pick [] rfl).dnil⟩
      · have hk := hk.lit 40 c68 rfl
        refine cnd_false hk rfl rfl ?_
        refine wp_skip ?_
        refine hK57 _ _ ?_
        apply wp_seq_k; intro K70 hK70
        apply wp_seq_k; intro K71 hK71
        refine wp_region_mix [(0, true), (1, true), (2, false), (3, false), (4, false)] mo (by kernel_rfl) (hs.pick [(3, 3), (8, 8), (6, 6), (7, 7), (11, 11), (9, 9), (10, 10), (14, 14), (12, 12), (13, 13)] rfl) fun _ => ?_
        have hs := hs.drew
        refine qst (.agg #[.string y34.Key, .int .i64 y34.Reg.Epoch, .int .i64 y34.Reg.Side, .int .i64 y34.Reg.Count, .int .i64 y34.Reg.Boot, .string y34.Reg.Base, .string y34.Reg.Tip, .string y34.Reg.Root, .slice A36 y34.Device.Sure.length p37, .slice A40 y34.Device.Unsure.length p41, .bool y34.Up, .bool y34.Dead]) hk rfl rfl rfl rfl (fun w hs => sln [.string y34.Key, .int .i64 y34.Reg.Epoch, .int .i64 y34.Reg.Side, .int .i64 y34.Reg.Count, .int .i64 y34.Reg.Boot, .string y34.Reg.Base, .string y34.Reg.Tip, .string y34.Reg.Root, .slice A36 y34.Device.Sure.length p37, .slice A40 y34.Device.Unsure.length p41, .bool y34.Up, .bool y34.Dead] rfl hk rfl rfl rfl ag37 sz37 (box_cells hs (k := 11) rfl) fun a hk => qe hk) fun a hk => ?_
        refine qst (.agg #[.string x0.Key, .int .i64 x0.Reg.Epoch, .int .i64 x0.Reg.Side, .int .i64 x0.Reg.Count, .int .i64 x0.Reg.Boot, .string x0.Reg.Base, .string x0.Reg.Tip, .string x0.Reg.Root, .slice A0_0 x0.Device.Sure.length p0_0, .slice A0_1 x0.Device.Unsure.length p0_1, .bool x0.Up, .bool x0.Dead]) hk rfl rfl rfl rfl (fun w hs => sln [.string x0.Key, .int .i64 x0.Reg.Epoch, .int .i64 x0.Reg.Side, .int .i64 x0.Reg.Count, .int .i64 x0.Reg.Boot, .string x0.Reg.Base, .string x0.Reg.Tip, .string x0.Reg.Root, .slice A0_0 x0.Device.Sure.length p0_0, .slice A0_1 x0.Device.Unsure.length p0_1, .bool x0.Up, .bool x0.Dead] rfl hk rfl rfl rfl ag29 sz29 (box_cells hs (k := 3) rfl) fun a hk => qe hk) fun a hk => ?_
        refine sst hk rfl rfl fun K72 hK72 w hF => ?_
        have hs := hs.f hF
        obtain ⟨y73, h74, H⟩ := bind_some H
        refine sc rfl en13 hk rfl rfl rfl (laws_toStore_t _ x0 A0_0 p0_0 _ v0_0 (hs.hasD (k := 1) rfl) A0_1 p0_1 _ v0_1 (hs.hasD (k := 2) rfl) _ h74) ?_
        rintro _ w ⟨A75, p76, k77, A79, p80, k81, rfl, o78, o82, hG⟩ a hk
        have hs := hs.call0k hG [16, 17] rfl
        refine se (hs.pick [(3, 3), (8, 8), (6, 6), (7, 7), (11, 11), (9, 9), (10, 10), (14, 14), (12, 12), (13, 13)] rfl) hk (hK72 _ _ ?_)
        refine sst hk rfl rfl fun K83 hK83 w hF => ?_
        have hs := hs.f hF
        obtain ⟨y84, h85, H⟩ := bind_some H
        refine sc rfl en15 hk rfl rfl rfl (laws_eqStore_t _ y34 A36 p37 _ o39.view (hs.hasG (k := 9) rfl) A40 p41 _ o43.view (hs.hasG (k := 10) rfl) y73 A75 p76 _ o78.view (hs.hasG (k := 16) rfl) A79 p80 _ o82.view (hs.hasG (k := 17) rfl) _ h85) ?_
        rintro _ w ⟨rfl, hG⟩ a hk
        have hs := hs.call0 hG
        refine se (hs.pick [(3, 3), (8, 8), (6, 6), (7, 7), (11, 11), (9, 9), (10, 10), (14, 14), (12, 12), (13, 13)] rfl) hk (hK83 _ _ ?_)
        refine sst hk rfl rfl fun K86 hK86 w hF => ?_
        have hs := hs.f hF
        refine sv (.bool (!y84)) hk rfl rfl rfl fun a hk => ?_
        refine se (hs.pick [(3, 3), (8, 8), (6, 6), (7, 7), (11, 11), (9, 9), (10, 10), (14, 14), (12, 12), (13, 13)] rfl) hk (hK86 _ _ ?_)
        refine wml_nil fun w hF _ => ?_
        have hs := hs.f hF
        refine hK71 _ _ ?_
        rcases cond_some H with ⟨c87, H⟩ | ⟨c87, H⟩
        · have hk := hk.lit 45 c87 rfl
          refine cnd_true hk rfl rfl ?_
          apply wp_seq_k; intro K88 hK88
          apply wp_region_lit
          refine sa _ rfl hk rfl rfl rfl fun a hk => ?_
          show wpList _ _ _ [] _ _
          refine wpList_nil ?_
          refine hK88 _ _ ?_
          refine wp_ret ?_
          obtain rfl := Option.some.inj H
          exact fin hk _ [(.bool false)] rfl ⟨rfl, trivial⟩ ⟨rfl, (hs.pick [] rfl).dnil⟩
        · have hk := hk.lit 45 c87 rfl
          refine cnd_false hk rfl rfl ?_
          refine wp_skip ?_
          refine hK70 _ _ ?_
          apply wp_seq_k; intro K89 hK89
          apply wp_region_lit
          refine sa _ rfl hk rfl rfl rfl fun a hk => ?_
          show wpList _ _ _ [] _ _
          refine wpList_nil ?_
          refine hK89 _ _ ?_
          apply wp_seq_k; intro K90 hK90
          apply wp_region_lit
          refine sln [.string y34.Key, .int .i64 y34.Reg.Epoch, .int .i64 y34.Reg.Side, .int .i64 y34.Reg.Count, .int .i64 y34.Reg.Boot, .string y34.Reg.Base, .string y34.Reg.Tip, .string y34.Reg.Root, .slice A36 y34.Device.Sure.length p37, .slice A40 y34.Device.Unsure.length p41, .bool y34.Up, .bool y34.Dead] rfl hk rfl rfl rfl ag37 sz37 (box_cells hs (k := 11) rfl) fun a hk => ?_
          refine sm _ rfl hk rfl rfl rfl fun a hk => ?_
          obtain ⟨y91, h92, H⟩ := bind_some H
          refine sc rfl en39 hk rfl rfl rfl (laws_markStore_t _ y34 A36 p37 _ o39 A40 p41 _ o43 1 ((hs.hand [(1, 9), (2, 10)] rfl).dpick [] rfl) _ h92) ?_
          rintro _ w ⟨k93, k96, rfl, ⟨o94, lh95⟩, ⟨o97, lh98⟩, hG⟩ a hk
          have hs := hs.back [(1, 9), (2, 10)] rfl hG [9, 10] rfl
          have lh99 : y91.2.1.length = y34.Device.Sure.length := lh95
          have lh100 : y91.2.2.length = y34.Device.Unsure.length := lh98
          refine sa _ rfl hk rfl rfl rfl fun a hk => ?_
          show wpList _ _ _ [] _ _
          refine wpList_nil ?_
          refine hK90 _ _ ?_
          apply wp_seq_k; intro K101 hK101
          apply wp_seq_k; intro K102 hK102
          obtain ⟨o105, h106, HL107⟩ := bind_some H
          clear H
          obtain ⟨R108, hR108⟩ : ∃ R : Act → World → Prop, R = fun a w => ∃ (u104 : Bool), u104 = o105 ∧ Kn [(1, (.pointer (some ⟨b2, 0, none⟩))), (4, (.pointer (some ⟨b32, 0, none⟩))), (5, (.int .i64 y22.2)), (7, (.pointer (some ⟨b56, 0, none⟩))), (61, (.bool u104))] 96 a ∧ Sat [] w0 w [(1, k0_0), (2, k0_1)] [(3, [(b2, .cells #[.string x0.Key, .int .i64 x0.Reg.Epoch, .int .i64 x0.Reg.Side, .int .i64 x0.Reg.Count, .int .i64 x0.Reg.Boot, .string x0.Reg.Base, .string x0.Reg.Tip, .string x0.Reg.Root, .slice A0_0 x0.Device.Sure.length p0_0, .slice A0_1 x0.Device.Unsure.length p0_1, .bool x0.Up, .bool x0.Dead] 29 (0, 0))]), (8, [(b32, .cells #[.string y22.1.Key, .int .i64 y22.1.Reg.Epoch, .int .i64 y22.1.Reg.Side, .int .i64 y22.1.Reg.Count, .int .i64 y22.1.Reg.Boot, .string y22.1.Reg.Base, .string y22.1.Reg.Tip, .string y22.1.Reg.Root, .slice A24 y22.1.Device.Sure.length p25, .slice A28 y22.1.Device.Unsure.length p29, .bool y22.1.Up, .bool y22.1.Dead] 37 (0, 0))]), (6, k26), (7, k30), (14, [(b56, .cells #[.string y46.1.Key, .int .i64 y46.1.Reg.Epoch, .int .i64 y46.1.Reg.Side, .int .i64 y46.1.Reg.Count, .int .i64 y46.1.Reg.Boot, .string y46.1.Reg.Base, .string y46.1.Reg.Tip, .string y46.1.Reg.Root, .slice A48 y46.1.Device.Sure.length p49, .slice A52 y46.1.Device.Unsure.length p53, .bool y46.1.Up, .bool y46.1.Dead] 37 (0, 0))]), (12, k50), (13, k54)] := ⟨_, rfl⟩
          refine wp_cutq R108 ?_ ?_
          · have H := h106
            apply wp_region_lit
            refine sm _ rfl hk rfl rfl rfl fun a hk => ?_
            refine sv (.bool (decide (y91.1 < 0))) hk rfl rfl rfl fun a hk => ?_
            refine sm _ rfl hk rfl rfl rfl fun a hk => ?_
            rcases cond_some H with ⟨c109, H⟩ | ⟨c109, H⟩
            · have hk := hk.lit 51 c109 rfl
              refine sk hk rfl rfl rfl fun a hk => ?_
              refine sk hk rfl rfl rfl fun a hk => ?_
              refine sk hk rfl rfl rfl fun a hk => ?_
              refine sk hk rfl rfl rfl fun a hk => ?_
              refine sv (.bool true) hk rfl rfl rfl fun a hk => ?_
              refine sm _ rfl hk rfl rfl rfl fun a hk => ?_
              refine sk hk rfl rfl rfl fun a hk => ?_
              refine sk hk rfl rfl rfl fun a hk => ?_
              refine sk hk rfl rfl rfl fun a hk => ?_
              refine sv (.bool true) hk rfl rfl rfl fun a hk => ?_
              show wpList _ _ _ [] _ _
              refine wpList_nil ?_
              obtain rfl := Option.some.inj H
              show R108 _ _
              rw [hR108]
              exact ⟨true, rfl, (hk.c 1 rfl (hk.c 4 rfl (hk.c 5 rfl (hk.c 7 rfl (hk.c 61 rfl hk.k))))), (hs.pick [(3, 3), (8, 8), (6, 6), (7, 7), (14, 14), (12, 12), (13, 13)] rfl)⟩
            · have hk := hk.lit 51 c109 rfl
              refine sln [.string y46.1.Key, .int .i64 y46.1.Reg.Epoch, .int .i64 y46.1.Reg.Side, .int .i64 y46.1.Reg.Count, .int .i64 y46.1.Reg.Boot, .string y46.1.Reg.Base, .string y46.1.Reg.Tip, .string y46.1.Reg.Root, .slice A48 y46.1.Device.Sure.length p49, .slice A52 y46.1.Device.Unsure.length p53, .bool y46.1.Up, .bool y46.1.Dead] rfl hk rfl rfl rfl ag37 sz37 (box_cells hs (k := 14) rfl) fun a hk => ?_
              refine sln [.string y22.1.Key, .int .i64 y22.1.Reg.Epoch, .int .i64 y22.1.Reg.Side, .int .i64 y22.1.Reg.Count, .int .i64 y22.1.Reg.Boot, .string y22.1.Reg.Base, .string y22.1.Reg.Tip, .string y22.1.Reg.Root, .slice A24 y22.1.Device.Sure.length p25, .slice A28 y22.1.Device.Unsure.length p29, .bool y22.1.Up, .bool y22.1.Dead] rfl hk rfl rfl rfl ag37 sz37 (box_cells hs (k := 8) rfl) fun a hk => ?_
              obtain ⟨y110, h111, H⟩ := bind_some H
              refine sc rfl en15 hk rfl rfl rfl (laws_eqStore_t _ y46.1 A48 p49 _ o51.view (hs.hasG (k := 12) rfl) A52 p53 _ o55.view (hs.hasG (k := 13) rfl) y22.1 A24 p25 _ o27.view (hs.hasG (k := 6) rfl) A28 p29 _ o31.view (hs.hasG (k := 7) rfl) _ h111) ?_
              rintro _ w ⟨rfl, hG⟩ a hk
              have hs := hs.call0 hG
              refine sv (.bool (!y110)) hk rfl rfl rfl fun a hk => ?_
              refine sv (.bool (!y110)) hk rfl rfl rfl fun a hk => ?_
              refine sm _ rfl hk rfl rfl rfl fun a hk => ?_
              rcases cond_some H with ⟨c112, H⟩ | ⟨c112, H⟩
              · have hk := hk.lit 57 c112 rfl
                refine sk hk rfl rfl rfl fun a hk => ?_
                refine sk hk rfl rfl rfl fun a hk => ?_
                refine sk hk rfl rfl rfl fun a hk => ?_
                refine sv (.bool true) hk rfl rfl rfl fun a hk => ?_
                show wpList _ _ _ [] _ _
                refine wpList_nil ?_
                obtain rfl := Option.some.inj H
                show R108 _ _
                rw [hR108]
                exact ⟨true, rfl, (hk.c 1 rfl (hk.c 4 rfl (hk.c 5 rfl (hk.c 7 rfl (hk.c 61 rfl hk.k))))), (hs.pick [(3, 3), (8, 8), (6, 6), (7, 7), (14, 14), (12, 12), (13, 13)] rfl)⟩
              · have hk := hk.lit 57 c112 rfl
                refine sm _ rfl hk rfl rfl rfl fun a hk => ?_
                refine sm _ rfl hk rfl rfl rfl fun a hk => ?_
                refine sv (.bool (y46.2 != y22.2)) hk rfl rfl rfl fun a hk => ?_
                refine sv (.bool (y46.2 != y22.2)) hk rfl rfl rfl fun a hk => ?_
                show wpList _ _ _ [] _ _
                refine wpList_nil ?_
                obtain rfl := Option.some.inj H
                show R108 _ _
                rw [hR108]
                exact ⟨(y46.2 != y22.2), rfl, (hk.c 1 rfl (hk.c 4 rfl (hk.c 5 rfl (hk.c 7 rfl (hk.c 61 rfl hk.k))))), (hs.pick [(3, 3), (8, 8), (6, 6), (7, 7), (14, 14), (12, 12), (13, 13)] rfl)⟩
          · intro a w hR0
            rw [hR108] at hR0
            obtain ⟨u104, rfl, hk, hs⟩ := hR0
            have H := HL107
            try dsimp only at H
            refine hK102 _ _ ?_
            rcases cond_some H with ⟨c113, H⟩ | ⟨c113, H⟩
            · have hk := hk.lit 61 c113 rfl
              refine cnd_true hk rfl rfl ?_
              apply wp_seq_k; intro K114 hK114
              apply wp_region_lit
              refine sa _ rfl hk rfl rfl rfl fun a hk => ?_
              show wpList _ _ _ [] _ _
              refine wpList_nil ?_
              refine hK114 _ _ ?_
              refine wp_ret ?_
              obtain rfl := Option.some.inj H
              exact fin hk _ [(.bool false)] rfl ⟨rfl, trivial⟩ ⟨rfl, (hs.pick [] rfl).dnil⟩
            · have hk := hk.lit 61 c113 rfl
              refine cnd_false hk rfl rfl ?_
              refine wp_skip ?_
              refine hK101 _ _ ?_
              apply wp_seq_k; intro K115 hK115
              apply wp_region_lit
              refine sa _ rfl hk rfl rfl rfl fun a hk => ?_
              show wpList _ _ _ [] _ _
              refine wpList_nil ?_
              refine hK115 _ _ ?_
              apply wp_seq_k; intro K116 hK116
              apply wp_region_lit
              refine sln [.string y46.1.Key, .int .i64 y46.1.Reg.Epoch, .int .i64 y46.1.Reg.Side, .int .i64 y46.1.Reg.Count, .int .i64 y46.1.Reg.Boot, .string y46.1.Reg.Base, .string y46.1.Reg.Tip, .string y46.1.Reg.Root, .slice A48 y46.1.Device.Sure.length p49, .slice A52 y46.1.Device.Unsure.length p53, .bool y46.1.Up, .bool y46.1.Dead] rfl hk rfl rfl rfl ag37 sz37 (box_cells hs (k := 14) rfl) fun a hk => ?_
              refine sm _ rfl hk rfl rfl rfl fun a hk => ?_
              obtain ⟨y117, h118, H⟩ := bind_some H
              refine sc rfl en39 hk rfl rfl rfl (laws_markStore_t _ y46.1 A48 p49 _ o51 A52 p53 _ o55 1 ((hs.hand [(1, 12), (2, 13)] rfl).dpick [] rfl) _ h118) ?_
              rintro _ w ⟨k119, k122, rfl, ⟨o120, lh121⟩, ⟨o123, lh124⟩, hG⟩ a hk
              have hs := hs.back [(1, 12), (2, 13)] rfl hG [12, 13] rfl
              have lh125 : y117.2.1.length = y46.1.Device.Sure.length := lh121
              have lh126 : y117.2.2.length = y46.1.Device.Unsure.length := lh124
              refine sa _ rfl hk rfl rfl rfl fun a hk => ?_
              show wpList _ _ _ [] _ _
              refine wpList_nil ?_
              refine hK116 _ _ ?_
              apply wp_seq_k; intro K127 hK127
              apply wp_region_lit
              refine sa _ rfl hk rfl rfl rfl fun a hk => ?_
              show wpList _ _ _ [] _ _
              refine wpList_nil ?_
              refine hK127 _ _ ?_
              apply wp_seq_k; intro K128 hK128
              apply wp_region_lit
              refine sln [.string y46.1.Key, .int .i64 y46.1.Reg.Epoch, .int .i64 y46.1.Reg.Side, .int .i64 y46.1.Reg.Count, .int .i64 y46.1.Reg.Boot, .string y46.1.Reg.Base, .string y46.1.Reg.Tip, .string y46.1.Reg.Root, .slice A48 y46.1.Device.Sure.length p49, .slice A52 y46.1.Device.Unsure.length p53, .bool y46.1.Up, .bool y46.1.Dead] rfl hk rfl rfl rfl ag37 sz37 (box_cells hs (k := 14) rfl) fun a hk => ?_
              refine sm _ rfl hk rfl rfl rfl fun a hk => ?_
              have hk := hk.re 65 (v' := (.agg #[.string y46.1.Key, .int .i64 y46.1.Reg.Epoch, .int .i64 y46.1.Reg.Side, .int .i64 y46.1.Reg.Count, .int .i64 y46.1.Reg.Boot, .string y46.1.Reg.Base, .string y46.1.Reg.Tip, .string y46.1.Reg.Root, .slice A48 y117.2.1.length p49, .slice A52 y117.2.2.length p53, .bool y46.1.Up, .bool y46.1.Dead])) rfl (by rw [lh125, lh126])
              obtain ⟨y129, h130, H⟩ := bind_some H
              refine sc rfl en40 hk rfl rfl rfl (laws_heldStore_t _ (⟨y46.1.Key, y46.1.Reg, (⟨y117.2.1, y117.2.2⟩ : S_Device), y46.1.Up, y46.1.Dead⟩ : S_Store) A48 p49 _ o120.view (hs.hasG (k := 12) rfl) A52 p53 _ o123.view (hs.hasG (k := 13) rfl) 1 _ h130) ?_
              rintro _ w ⟨rfl, hG⟩ a hk
              have hs := hs.call0 hG
              refine sa _ rfl hk rfl rfl rfl fun a hk => ?_
              show wpList _ _ _ [] _ _
              refine wpList_nil ?_
              refine hK128 _ _ ?_
              apply wp_seq_k; intro K131 hK131
              apply wp_seq_k; intro K132 hK132
              apply wp_region_lit
              refine sm _ rfl hk rfl rfl rfl fun a hk => ?_
              refine sv (.bool (decide (y129 < 0))) hk rfl rfl rfl fun a hk => ?_
              show wpList _ _ _ [] _ _
              refine wpList_nil ?_
              refine hK132 _ _ ?_
              rcases cond_some H with ⟨c133, H⟩ | ⟨c133, H⟩
              · have hk := hk.lit 69 c133 rfl
                refine cnd_true hk rfl rfl ?_
                apply wp_seq_k; intro K134 hK134
                apply wp_region_lit
                refine sa _ rfl hk rfl rfl rfl fun a hk => ?_
                show wpList _ _ _ [] _ _
                refine wpList_nil ?_
                refine hK134 _ _ ?_
                refine wp_ret ?_
                obtain rfl := Option.some.inj H
                exact fin hk _ [(.bool false)] rfl ⟨rfl, trivial⟩ ⟨rfl, (hs.pick [] rfl).dnil⟩
              · have hk := hk.lit 69 c133 rfl
                refine cnd_false hk rfl rfl ?_
                refine wp_skip ?_
                refine hK131 _ _ ?_
                apply wp_seq_k; intro K135 hK135
                apply wp_seq_k; intro K136 hK136
                apply wp_region_lit
                refine sm _ rfl hk rfl rfl rfl fun a hk => ?_
                refine sm _ rfl hk rfl rfl rfl fun a hk => ?_
                refine sv (.bool (y129 != y117.1)) hk rfl rfl rfl fun a hk => ?_
                show wpList _ _ _ [] _ _
                refine wpList_nil ?_
                refine hK136 _ _ ?_
                rcases cond_some H with ⟨c137, H⟩ | ⟨c137, H⟩
                · have hk := hk.lit 72 c137 rfl
                  refine cnd_true hk rfl rfl ?_
                  apply wp_seq_k; intro K138 hK138
                  apply wp_region_lit
                  refine sa _ rfl hk rfl rfl rfl fun a hk => ?_
                  show wpList _ _ _ [] _ _
                  refine wpList_nil ?_
                  refine hK138 _ _ ?_
                  refine wp_ret ?_
                  obtain rfl := Option.some.inj H
                  exact fin hk _ [(.bool false)] rfl ⟨rfl, trivial⟩ ⟨rfl, (hs.pick [] rfl).dnil⟩
                · have hk := hk.lit 72 c137 rfl
                  refine cnd_false hk rfl rfl ?_
                  refine wp_skip ?_
                  refine hK135 _ _ ?_
                  apply wp_seq_k; intro K139 hK139
                  apply wp_region_lit
                  refine sln [.string x0.Key, .int .i64 x0.Reg.Epoch, .int .i64 x0.Reg.Side, .int .i64 x0.Reg.Count, .int .i64 x0.Reg.Boot, .string x0.Reg.Base, .string x0.Reg.Tip, .string x0.Reg.Root, .slice A0_0 x0.Device.Sure.length p0_0, .slice A0_1 x0.Device.Unsure.length p0_1, .bool x0.Up, .bool x0.Dead] rfl hk rfl rfl rfl ag29 sz29 (box_cells hs (k := 3) rfl) fun a hk => ?_
                  obtain ⟨y140, h141, H⟩ := bind_some H
                  refine sc rfl en13 hk rfl rfl rfl (laws_toStore_t _ x0 A0_0 p0_0 _ v0_0 (hs.hasD (k := 1) rfl) A0_1 p0_1 _ v0_1 (hs.hasD (k := 2) rfl) _ h141) ?_
                  rintro _ w ⟨A142, p143, k144, A146, p147, k148, rfl, o145, o149, hG⟩ a hk
                  have hs := hs.call0k hG [19, 20] rfl
                  obtain ⟨y150, h151, H⟩ := bind_some H
                  refine sc rfl en38 hk rfl rfl rfl (impl_Crash_t _ y140 A142 p143 _ o145.view (hs.hasG (k := 19) rfl) A146 p147 _ o149.view (hs.hasG (k := 20) rfl) _ h151) ?_
                  rintro _ w ⟨A152, p153, k154, A156, p157, k158, rfl, o155, o159, hG⟩ a hk
                  have hs := hs.call0k hG [21, 22] rfl
                  refine sm _ rfl hk rfl rfl rfl fun a hk => ?_
                  refine sv (.agg #[.string y150.1.Key, .int .i64 y150.1.Reg.Epoch, .int .i64 y150.1.Reg.Side, .int .i64 y150.1.Reg.Count, .int .i64 y150.1.Reg.Boot, .string y150.1.Reg.Base, .string y150.1.Reg.Tip, .string y150.1.Reg.Root, .slice A152 y150.1.Device.Sure.length p153, .slice A156 y150.1.Device.Unsure.length p157, .bool y150.1.Up, .bool y150.1.Dead]) hk rfl rfl rfl fun a hk => ?_
                  refine sv (.int .i64 y150.2) hk rfl rfl rfl fun a hk => ?_
                  refine salx 23 hs rfl hk rfl rfl ze37 rfl fun b160 w a hk hs => ?_
                  refine ssw 23 hs rfl rfl hk rfl rfl rfl rfl sz37 (by simp [Value.oneCell']) rfl fun w a hk hs => ?_
                  refine sa _ rfl hk rfl rfl rfl fun a hk => ?_
                  show wpList _ _ _ [] _ _
                  refine wpList_nil ?_
                  refine hK139 _ _ ?_
                  apply wp_seq_k; intro K161 hK161
                  apply wp_seq_k; intro K162 hK162
                  obtain ⟨o165, h166, HL167⟩ := bind_some H
                  clear H
                  obtain ⟨R168, hR168⟩ : ∃ R : Act → World → Prop, R = fun a w => ∃ (u164 : Bool), u164 = o165 ∧ Kn [(7, (.pointer (some ⟨b56, 0, none⟩))), (10, (.int .i64 y117.1)), (87, (.bool u164))] 96 a ∧ Sat [] w0 w [(1, k0_0), (2, k0_1)] [(14, [(b56, .cells #[.string y46.1.Key, .int .i64 y46.1.Reg.Epoch, .int .i64 y46.1.Reg.Side, .int .i64 y46.1.Reg.Count, .int .i64 y46.1.Reg.Boot, .string y46.1.Reg.Base, .string y46.1.Reg.Tip, .string y46.1.Reg.Root, .slice A48 y46.1.Device.Sure.length p49, .slice A52 y46.1.Device.Unsure.length p53, .bool y46.1.Up, .bool y46.1.Dead] 37 (0, 0))]), (12, k119), (13, k122)] := ⟨_, rfl⟩
                  refine wp_cutq R168 ?_ ?_
                  · have H := h166
                    apply wp_region_lit
                    refine sln [.string y150.1.Key, .int .i64 y150.1.Reg.Epoch, .int .i64 y150.1.Reg.Side, .int .i64 y150.1.Reg.Count, .int .i64 y150.1.Reg.Boot, .string y150.1.Reg.Base, .string y150.1.Reg.Tip, .string y150.1.Reg.Root, .slice A152 y150.1.Device.Sure.length p153, .slice A156 y150.1.Device.Unsure.length p157, .bool y150.1.Up, .bool y150.1.Dead] rfl hk rfl rfl rfl ag37 sz37 (box_cells hs (k := 23) rfl) fun a hk => ?_
                    refine sln [.string y22.1.Key, .int .i64 y22.1.Reg.Epoch, .int .i64 y22.1.Reg.Side, .int .i64 y22.1.Reg.Count, .int .i64 y22.1.Reg.Boot, .string y22.1.Reg.Base, .string y22.1.Reg.Tip, .string y22.1.Reg.Root, .slice A24 y22.1.Device.Sure.length p25, .slice A28 y22.1.Device.Unsure.length p29, .bool y22.1.Up, .bool y22.1.Dead] rfl hk rfl rfl rfl ag37 sz37 (box_cells hs (k := 8) rfl) fun a hk => ?_
                    obtain ⟨y169, h170, H⟩ := bind_some H
                    refine sc rfl en15 hk rfl rfl rfl (laws_eqStore_t _ y150.1 A152 p153 _ o155.view (hs.hasG (k := 21) rfl) A156 p157 _ o159.view (hs.hasG (k := 22) rfl) y22.1 A24 p25 _ o27.view (hs.hasG (k := 6) rfl) A28 p29 _ o31.view (hs.hasG (k := 7) rfl) _ h170) ?_
                    rintro _ w ⟨rfl, hG⟩ a hk
                    have hs := hs.call0 hG
                    refine sv (.bool (!y169)) hk rfl rfl rfl fun a hk => ?_
                    refine sm _ rfl hk rfl rfl rfl fun a hk => ?_
                    rcases cond_some H with ⟨c171, H⟩ | ⟨c171, H⟩
                    · have hk := hk.lit 83 c171 rfl
                      refine sk hk rfl rfl rfl fun a hk => ?_
                      refine sk hk rfl rfl rfl fun a hk => ?_
                      refine sk hk rfl rfl rfl fun a hk => ?_
                      refine sv (.bool true) hk rfl rfl rfl fun a hk => ?_
                      show wpList _ _ _ [] _ _
                      refine wpList_nil ?_
                      obtain rfl := Option.some.inj H
                      show R168 _ _
                      rw [hR168]
                      exact ⟨true, rfl, (hk.c 7 rfl (hk.c 10 rfl (hk.c 87 rfl hk.k))), (hs.pick [(14, 14), (12, 12), (13, 13)] rfl)⟩
                    · have hk := hk.lit 83 c171 rfl
                      refine sm _ rfl hk rfl rfl rfl fun a hk => ?_
                      refine sm _ rfl hk rfl rfl rfl fun a hk => ?_
                      refine sv (.bool (y150.2 != y22.2)) hk rfl rfl rfl fun a hk => ?_
                      refine sv (.bool (y150.2 != y22.2)) hk rfl rfl rfl fun a hk => ?_
                      show wpList _ _ _ [] _ _
                      refine wpList_nil ?_
                      obtain rfl := Option.some.inj H
                      show R168 _ _
                      rw [hR168]
                      exact ⟨(y150.2 != y22.2), rfl, (hk.c 7 rfl (hk.c 10 rfl (hk.c 87 rfl hk.k))), (hs.pick [(14, 14), (12, 12), (13, 13)] rfl)⟩
                  · intro a w hR0
                    rw [hR168] at hR0
                    obtain ⟨u164, rfl, hk, hs⟩ := hR0
                    have H := HL167
                    try dsimp only at H
                    refine hK162 _ _ ?_
                    rcases cond_some H with ⟨c172, H⟩ | ⟨c172, H⟩
                    · have hk := hk.lit 87 c172 rfl
                      refine cnd_true hk rfl rfl ?_
                      apply wp_seq_k; intro K173 hK173
                      apply wp_region_lit
                      refine sa _ rfl hk rfl rfl rfl fun a hk => ?_
                      show wpList _ _ _ [] _ _
                      refine wpList_nil ?_
                      refine hK173 _ _ ?_
                      refine wp_ret ?_
                      obtain rfl := Option.some.inj H
                      exact fin hk _ [(.bool false)] rfl ⟨rfl, trivial⟩ ⟨rfl, (hs.pick [] rfl).dnil⟩
                    · have hk := hk.lit 87 c172 rfl
                      refine cnd_false hk rfl rfl ?_
                      refine wp_skip ?_
                      refine hK161 _ _ ?_
                      apply wp_seq_k; intro K174 hK174
                      apply wp_region_lit
                      refine sa _ rfl hk rfl rfl rfl fun a hk => ?_
                      show wpList _ _ _ [] _ _
                      refine wpList_nil ?_
                      refine hK174 _ _ ?_
                      apply wp_seq_k; intro K175 hK175
                      apply wp_region_lit
                      refine sln [.string y46.1.Key, .int .i64 y46.1.Reg.Epoch, .int .i64 y46.1.Reg.Side, .int .i64 y46.1.Reg.Count, .int .i64 y46.1.Reg.Boot, .string y46.1.Reg.Base, .string y46.1.Reg.Tip, .string y46.1.Reg.Root, .slice A48 y46.1.Device.Sure.length p49, .slice A52 y46.1.Device.Unsure.length p53, .bool y46.1.Up, .bool y46.1.Dead] rfl hk rfl rfl rfl ag37 sz37 (box_cells hs (k := 14) rfl) fun a hk => ?_
                      refine sm _ rfl hk rfl rfl rfl fun a hk => ?_
                      have hk := hk.re 88 (v' := (.agg #[.string y46.1.Key, .int .i64 y46.1.Reg.Epoch, .int .i64 y46.1.Reg.Side, .int .i64 y46.1.Reg.Count, .int .i64 y46.1.Reg.Boot, .string y46.1.Reg.Base, .string y46.1.Reg.Tip, .string y46.1.Reg.Root, .slice A48 y117.2.1.length p49, .slice A52 y117.2.2.length p53, .bool y46.1.Up, .bool y46.1.Dead])) rfl (by rw [lh125, lh126])
                      obtain ⟨y176, h177, H⟩ := bind_some H
                      refine sc rfl en40 hk rfl rfl rfl (laws_heldStore_t _ (⟨y46.1.Key, y46.1.Reg, (⟨y117.2.1, y117.2.2⟩ : S_Device), y46.1.Up, y46.1.Dead⟩ : S_Store) A48 p49 _ o120.view (hs.hasG (k := 12) rfl) A52 p53 _ o123.view (hs.hasG (k := 13) rfl) 1 _ h177) ?_
                      rintro _ w ⟨rfl, hG⟩ a hk
                      have hs := hs.call0 hG
                      refine sa _ rfl hk rfl rfl rfl fun a hk => ?_
                      show wpList _ _ _ [] _ _
                      refine wpList_nil ?_
                      refine hK175 _ _ ?_
                      apply wp_seq_k; intro K178 hK178
                      apply wp_seq_k; intro K179 hK179
                      apply wp_region_lit
                      refine sm _ rfl hk rfl rfl rfl fun a hk => ?_
                      refine sv (.bool (decide (y176 < 0))) hk rfl rfl rfl fun a hk => ?_
                      show wpList _ _ _ [] _ _
                      refine wpList_nil ?_
                      refine hK179 _ _ ?_
                      rcases cond_some H with ⟨c180, H⟩ | ⟨c180, H⟩
                      · have hk := hk.lit 92 c180 rfl
                        refine cnd_true hk rfl rfl ?_
                        apply wp_seq_k; intro K181 hK181
                        apply wp_region_lit
                        refine sa _ rfl hk rfl rfl rfl fun a hk => ?_
                        show wpList _ _ _ [] _ _
                        refine wpList_nil ?_
                        refine hK181 _ _ ?_
                        refine wp_ret ?_
                        obtain rfl := Option.some.inj H
                        exact fin hk _ [(.bool false)] rfl ⟨rfl, trivial⟩ ⟨rfl, (hs.pick [] rfl).dnil⟩
                      · have hk := hk.lit 92 c180 rfl
                        refine cnd_false hk rfl rfl ?_
                        refine wp_skip ?_
                        refine hK178 _ _ ?_
                        apply wp_seq_k; intro K182 hK182
                        apply wp_seq_k; intro K183 hK183
                        apply wp_region_lit
                        refine sm _ rfl hk rfl rfl rfl fun a hk => ?_
                        refine sm _ rfl hk rfl rfl rfl fun a hk => ?_
                        refine sv (.bool (y176 != y117.1)) hk rfl rfl rfl fun a hk => ?_
                        show wpList _ _ _ [] _ _
                        refine wpList_nil ?_
                        refine hK183 _ _ ?_
                        rcases cond_some H with ⟨c184, H⟩ | ⟨c184, H⟩
                        · have hk := hk.lit 95 c184 rfl
                          refine cnd_true hk rfl rfl ?_
                          apply wp_seq_k; intro K185 hK185
                          apply wp_region_lit
                          refine sa _ rfl hk rfl rfl rfl fun a hk => ?_
                          show wpList _ _ _ [] _ _
                          refine wpList_nil ?_
                          refine hK185 _ _ ?_
                          refine wp_ret ?_
                          obtain rfl := Option.some.inj H
                          exact fin hk _ [(.bool false)] rfl ⟨rfl, trivial⟩ ⟨rfl, (hs.pick [] rfl).dnil⟩
                        · have hk := hk.lit 95 c184 rfl
                          refine cnd_false hk rfl rfl ?_
                          refine wp_skip ?_
                          refine hK182 _ _ ?_
                          apply wp_seq_k; intro K186 hK186
                          apply wp_region_lit
                          refine sa _ rfl hk rfl rfl rfl fun a hk => ?_
                          show wpList _ _ _ [] _ _
                          refine wpList_nil ?_
                          refine hK186 _ _ ?_
                          refine wp_ret ?_
                          obtain rfl := Option.some.inj H
                          exact fin hk _ [(.bool true)] rfl ⟨rfl, trivial⟩ ⟨rfl, (hs.pick [] rfl).dnil⟩

end Go.Proofs.Ytmafglodgnbajaa
