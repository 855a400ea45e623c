/- The functions that FnExactWithDevice reaches: for each a model and the walk that shows that the Go code comes to it. -/
import Derived.Test.YtmafglodgnbajaaGXStoreOKn1
namespace Go.Proofs.Ytmafglodgnbajaa
open Go Go.Z Go.Proofs Go.MuLone Go.ChangeShapes Go.WideShapes Go.ChangeAt Go.RowKit
set_option linter.unusedVariables false
set_option linter.unusedSimpArgs false
noncomputable def laws_markText.s0  (u10 : Int) (u11 : ByteArray) : Option ((Int × ByteArray) ⊕ Ex (ByteArray) (ByteArray)) :=
  (bif (decide (u10 > 0)) then (if (strOfNums ([(IntKind.wrap .u8 (w64 (48 + (Int.tmod u10 10))))])).size + u11.size ≤ 1152921504606846976 then (some (.inl ((IntKind.wrap .i64 (Int.tdiv u10 10)), ((strOfNums ([(IntKind.wrap .u8 (w64 (48 + (Int.tmod u10 10))))])) ++ u11)))) else none) else (some (.inr (.out u11))))
noncomputable def laws_markText.f (x0 : Int) : Option (ByteArray) :=
  (bif (decide (x0 ≤ 0)) then (some (⟨#[109, 48]⟩ : ByteArray)) else ((loopO (fun s => laws_markText.s0  s.1 s.2) (x0, (⟨#[]⟩ : ByteArray))).bind fun o => match o with | .out u12 => (if (⟨#[109]⟩ : ByteArray).size + u12.size ≤ 1152921504606846976 then (some ((⟨#[109]⟩ : ByteArray) ++ u12)) else none) | .ret r => (some r)))
set_option maxRecDepth 100000 in
set_option maxHeartbeats 0 in
theorem laws_markText_t (w0 : World) (x0 : Int) (r : ByteArray) (H : laws_markText.f x0 = some r) :
    Calls Try.prog 121 #[.int .i64 x0] w0 (Ret (fun v w => v = .string r ∧ Sat [] w0 w [] [])) := by
  have hs : Sat [] w0 w0 [] [] := Sat.init w0 [] [] (by simp) (by simp) List.nodup_nil (by simp [blks])
  unfold laws_markText.f at H
  refine enter Try.func121 rfl Try.ntmps121 rfl fun a hk => ?_
  apply wp_seq_k; intro K1 hK1
  apply wp_region_lit
  refine sa _ rfl hk rfl rfl rfl fun a hk => ?_
  show wpList _ _ _ [] _ _
  refine wpList_nil ?_
  refine hK1 _ _ ?_
  apply wp_seq_k; intro K2 hK2
  apply wp_seq_k; intro K3 hK3
  apply wp_region_lit
  refine sm _ rfl hk rfl rfl rfl fun a hk => ?_
  refine sv (.bool (decide (x0 ≤ 0))) hk rfl rfl rfl fun a hk => ?_
  show wpList _ _ _ [] _ _
  refine wpList_nil ?_
  refine hK3 _ _ ?_
  rcases cond_some H with ⟨c4, H⟩ | ⟨c4, H⟩
  · have hk := hk.lit 5 c4 rfl
    refine cnd_true hk rfl rfl ?_
    apply wp_seq_k; intro K5 hK5
    apply wp_region_lit
    refine sa _ rfl hk rfl rfl rfl fun a hk => ?_
    show wpList _ _ _ [] _ _
    refine wpList_nil ?_
    refine hK5 _ _ ?_
    refine wp_ret ?_
    obtain rfl := Option.some.inj H
    exact fin hk _ [(.string (⟨#[109, 48]⟩ : ByteArray))] rfl ⟨rfl, trivial⟩ ⟨rfl, (hs.pick [] rfl).dnil⟩
  · have hk := hk.lit 5 c4 rfl
    refine cnd_false hk rfl rfl ?_
    refine wp_skip ?_
    refine hK2 _ _ ?_
    apply wp_seq_k; intro K6 hK6
    apply wp_region_lit
    refine sa _ rfl hk rfl rfl rfl fun a hk => ?_
    show wpList _ _ _ [] _ _
    refine wpList_nil ?_
    refine hK6 _ _ ?_
    apply wp_seq_k; intro K7 hK7
    obtain ⟨o13, h14, HL15⟩ := bind_some H
    clear H
    obtain ⟨R16, hR16⟩ : ∃ R : Act → World → Prop, R = fun a w => ∃ (u12 : ByteArray), o13 = .out u12 ∧ Kn [(3, (.string u12))] 20 a ∧ Sat [] w0 w [] [] := ⟨_, rfl⟩
    refine wp_cutq R16 ?_ ?_
    · refine wp_block ?_
      obtain ⟨fu18, h14⟩ := loopO_some h14
      obtain ⟨I17, hI17⟩ : ∃ I : Nat → Act → World → Prop, I = fun fu a w => ∃ (u10 : Int) (u11 : ByteArray), loopN (fun s => laws_markText.s0  s.1 s.2) fu (u10, u11) = some o13 ∧ Kn [(0, (.int .i64 u10)), (3, (.string u11))] 20 a ∧ Sat [] w0 w [] [] := ⟨_, rfl⟩
      refine wp_loop_ghost I17 fu18 ?_ ?_
      · rw [hI17]
        exact ⟨x0, (⟨#[]⟩ : ByteArray), h14, (hk.c 0 rfl (hk.c 3 rfl hk.k)), (hs.pick [] rfl)⟩
      · clear h14 hk hs
        intro fu18 a w hI0
        rw [hI17] at hI0
        obtain ⟨u10, u11, hi, hk, hs⟩ := hI0
        obtain ⟨x19, H, h20⟩ := loop_round hi
        try dsimp only at H
        unfold laws_markText.s0 at H
        apply wp_seq_k; intro K21 hK21
        apply wp_seq_k; intro K22 hK22
        apply wp_region_lit
        refine sm _ rfl hk rfl rfl rfl fun a hk => ?_
        refine sv (.bool (decide (u10 > 0))) hk rfl rfl rfl fun a hk => ?_
        show wpList _ _ _ [] _ _
        refine wpList_nil ?_
        refine hK22 _ _ ?_
        rcases cond_some H with ⟨c23, H⟩ | ⟨c23, H⟩
        · have hk := hk.lit 7 c23 rfl
          refine cnd_true hk rfl rfl ?_
          refine wp_skip ?_
          refine hK21 _ _ ?_
          refine wp_block ?_
          apply wp_seq_k; intro K24 hK24
          apply wp_region_lit
          refine sm _ rfl hk rfl rfl rfl fun a hk => ?_
          refine sv (.int .i64 (Int.tmod u10 10)) hk rfl rfl rfl fun a hk => ?_
          refine sv (.int .i64 (w64 (48 + (Int.tmod u10 10)))) hk rfl rfl rfl fun a hk => ?_
          refine scn rfl hk rfl rfl rfl un5 un3 fun a hk => ?_
          refine sbs (L := (Lay.int .u8)) (pv := [(0, (.int .u8 (IntKind.wrap .u8 (w64 (48 + (Int.tmod u10 10))))))]) (xs := [(IntKind.wrap .u8 (w64 (48 + (Int.tmod u10 10))))]) (ess := [[.int .u8 (IntKind.wrap .u8 (w64 (48 + (Int.tmod u10 10))))]]) 2 hs rfl hk rfl rfl rfl un102 (bs5_0 (IntKind.wrap .u8 (w64 (48 + (Int.tmod u10 10))))) (AllOwn.cons0 ⟨rfl, rfl⟩ AllOwn.nil) rfl rfl rfl fun b25 k26 w a hk o27 hs => ?_
          refine sbt (xs := ([(IntKind.wrap .u8 (w64 (48 + (Int.tmod u10 10))))])) rfl hk rfl rfl rfl rfl un102 un5 un9 o27.view (hs.hasG (k := 2) rfl) fun a hk => ?_
          refine sm _ rfl hk rfl rfl rfl fun a hk => ?_
          rcases ite_some H with ⟨c28, H⟩ | ⟨_, H⟩
          rotate_left
          · cases H
          refine ssa rfl hk rfl rfl rfl rfl c28 fun a hk => ?_
          refine sa _ rfl hk rfl rfl rfl fun a hk => ?_
          show wpList _ _ _ [] _ _
          refine wpList_nil ?_
          refine hK24 _ _ ?_
          apply wp_region_lit
          refine sm _ rfl hk rfl rfl rfl fun a hk => ?_
          refine sv (.int .i64 (IntKind.wrap .i64 (Int.tdiv u10 10))) hk rfl rfl rfl fun a hk => ?_
          refine sa _ rfl hk rfl rfl rfl fun a hk => ?_
          show wpList _ _ _ [] _ _
          refine wpList_nil ?_
          obtain rfl := Option.some.inj H
          obtain ⟨m29, hmm29, h20⟩ := h20
          show ∃ n', n' < _ ∧ I17 n' _ _
          refine ⟨m29, hmm29, ?_⟩
          rw [hI17]
          exact ⟨(IntKind.wrap .i64 (Int.tdiv u10 10)), ((strOfNums ([(IntKind.wrap .u8 (w64 (48 + (Int.tmod u10 10))))])) ++ u11), h20, (hk.c 0 rfl (hk.c 3 rfl hk.k)), (hs.pick [] rfl)⟩
        · have hk := hk.lit 7 c23 rfl
          refine cnd_false hk rfl rfl ?_
          refine wp_exit ?_
          obtain rfl := Option.some.inj H
          show R16 _ _
          rw [hR16]
          exact ⟨u11, h20.symm, (hk.c 3 rfl hk.k), (hs.pick [] rfl)⟩
    · intro a w hR0
      rw [hR16] at hR0
      obtain ⟨u12, rfl, hk, hs⟩ := hR0
      have H := HL15
      try dsimp only at H
      refine hK7 _ _ ?_
      apply wp_seq_k; intro K30 hK30
      apply wp_region_lit
      refine sm _ rfl hk rfl rfl rfl fun a hk => ?_
      rcases ite_some H with ⟨c31, H⟩ | ⟨_, H⟩
      rotate_left
      · cases H
      refine ssa rfl hk rfl rfl rfl rfl c31 fun a hk => ?_
      refine sa _ rfl hk rfl rfl rfl fun a hk => ?_
      show wpList _ _ _ [] _ _
      refine wpList_nil ?_
      refine hK30 _ _ ?_
      refine wp_ret ?_
      obtain rfl := Option.some.inj H
      exact fin hk _ [(.string ((⟨#[109]⟩ : ByteArray) ++ u12))] rfl ⟨rfl, trivial⟩ ⟨rfl, (hs.pick [] rfl).dnil⟩

noncomputable def laws_markStringS.s0 (l0 : List ByteArray) (u6 : List ByteArray) (u10 : Int) (u11 : Int) : Option (((List ByteArray) × Int × Int) ⊕ Ex ((List ByteArray) × Int) (Int × (List ByteArray))) :=
  (bif (decide (u11 < (l0.length : Int))) then ((laws_markText.f u10).bind fun y30 => (if 0 ≤ u11 ∧ u11 < (l0.length : Int) then (some (.inl ((u6.set u11.toNat y30), (w64 (u10 + 1)), (w64 (u11 + 1))))) else none)) else (some (.inr (.out (u6, u10)))))
noncomputable def laws_markStringS.f (l0 : List ByteArray) (x1 : Int) : Option (Int × (List ByteArray)) :=
  ((loopO (fun s => laws_markStringS.s0 l0 s.1 s.2.1 s.2.2) (l0, x1, 0)).bind fun o => match o with | .out (u12, u16) => (some (u16, u12)) | .ret r => (some r))
set_option maxRecDepth 100000 in
set_option maxHeartbeats 0 in
theorem laws_markStringS_t (w0 : World) (A0_ : Option Addr) (p0_ : Nat) (l0 : List ByteArray) (k0_ : Chunk) (v0_ : Own Lay.str 9 A0_ p0_ l0 k0_) (x1 : Int) (hs0 : Sat (blks [(1, k0_)]) w0 w0 [] [(1, k0_)]) (r : Int × (List ByteArray)) (H : laws_markStringS.f l0 x1 = some r) :
    Calls Try.prog 83 #[.slice A0_ l0.length p0_, .int .i64 x1] w0 (Ret (fun v w => ∃ (k0 : Chunk), v = .int .i64 r.1 ∧ (Own Lay.str 9 A0_ p0_ r.2 k0 ∧ r.2.length = l0.length) ∧ Sat (blks [(1, k0_)]) w0 w [] [(0, k0)])) := by
  have hs := hs0
  unfold laws_markStringS.f at H
  refine enter Try.func83 rfl Try.ntmps83 rfl fun a hk => ?_
  apply wp_seq_k; intro K1 hK1
  apply wp_region_lit
  refine sa _ rfl hk rfl rfl rfl fun a hk => ?_
  show wpList _ _ _ [] _ _
  refine wpList_nil ?_
  refine hK1 _ _ ?_
  apply wp_seq_k; intro K2 hK2
  apply wp_seq_k; intro K3 hK3
  apply wp_region_lit
  refine sa _ rfl hk rfl rfl rfl fun a hk => ?_
  show wpList _ _ _ [] _ _
  refine wpList_nil ?_
  refine hK3 _ _ ?_
  obtain ⟨o17, h18, HL19⟩ := bind_some H
  clear H
  obtain ⟨R20, hR20⟩ : ∃ R : Act → World → Prop, R = fun a w => ∃ (u12 : List ByteArray) (u16 : Int) (k13 : Chunk), o17 = .out (u12, u16) ∧ Kn [(0, (.slice A0_ l0.length p0_)), (1, (.int .i64 u16))] 20 a ∧ Sat (blks [(1, k0_)]) w0 w [] [(1, k13)] ∧ Own Lay.str 9 A0_ p0_ u12 k13 ∧ u12.length = l0.length := ⟨_, rfl⟩
  refine wp_cutq R20 ?_ ?_
  · refine wp_block ?_
    obtain ⟨fu22, h18⟩ := loopO_some h18
    obtain ⟨I21, hI21⟩ : ∃ I : Nat → Act → World → Prop, I = fun fu a w => ∃ (u6 : List ByteArray) (u10 : Int) (u11 : Int) (k7 : Chunk), loopN (fun s => laws_markStringS.s0 l0 s.1 s.2.1 s.2.2) fu (u6, u10, u11) = some o17 ∧ Kn [(0, (.slice A0_ l0.length p0_)), (1, (.int .i64 u10)), (5, (.int .i64 u11))] 20 a ∧ Sat (blks [(1, k0_)]) w0 w [] [(1, k7)] ∧ Own Lay.str 9 A0_ p0_ u6 k7 ∧ u6.length = l0.length := ⟨_, rfl⟩
    refine wp_loop_ghost I21 fu22 ?_ ?_
    · rw [hI21]
      exact ⟨l0, x1, 0, _, h18, (hk.c 0 rfl (hk.c 1 rfl (hk.c 5 rfl hk.k))), (hs.pick [(1, 1)] rfl), v0_, rfl⟩
    · clear h18 hk hs
      intro fu22 a w hI0
      rw [hI21] at hI0
      obtain ⟨u6, u10, u11, k7, hi, hk, hs, o8, lh9⟩ := hI0
      obtain ⟨x23, H, h24⟩ := loop_round hi
      try dsimp only at H
      unfold laws_markStringS.s0 at H
      apply wp_seq_k; intro K25 hK25
      apply wp_seq_k; intro K26 hK26
      apply wp_region_lit
      refine sm _ rfl hk rfl rfl rfl fun a hk => ?_
      refine sm _ rfl hk rfl rfl rfl fun a hk => ?_
      refine sle rfl hk rfl rfl rfl un24 fun a hk => ?_
      refine sv (.bool (decide (u11 < (l0.length : Int)))) hk rfl rfl rfl fun a hk => ?_
      show wpList _ _ _ [] _ _
      refine wpList_nil ?_
      refine hK26 _ _ ?_
      rcases cond_some H with ⟨c27, H⟩ | ⟨c27, H⟩
      · have hk := hk.lit 9 c27 rfl
        refine cnd_true hk rfl rfl ?_
        refine wp_skip ?_
        refine hK25 _ _ ?_
        apply wp_seq_k; intro K28 hK28
        refine wp_block ?_
        apply wp_seq_k; intro K29 hK29
        apply wp_region_lit
        refine sm _ rfl hk rfl rfl rfl fun a hk => ?_
        refine sm _ rfl hk rfl rfl rfl fun a hk => ?_
        refine sm _ rfl hk rfl rfl rfl fun a hk => ?_
        obtain ⟨y30, h31, H⟩ := bind_some H
        refine sc rfl en121 hk rfl rfl rfl (laws_markText_t _ u10 _ h31) ?_
        rintro _ w ⟨rfl, hG⟩ a hk
        have hs := hs.call0 hG
        rcases ite_some H with ⟨c32, H⟩ | ⟨_, H⟩
        rotate_left
        · cases H
        obtain ⟨b33, q34, hAc32⟩ := (o8.view).some_ u11 c32.1 (by rw [lh9]; exact c32.2)
        refine si rfl hk rfl rfl rfl rfl un24 sz9 c32.1 c32.2 hAc32 fun a hk => ?_
        refine so (j := 0) 1 ByteArray.empty y30 hs rfl o8 c32.1 (by rw [lh9]; exact c32.2) rfl hk rfl rfl rfl rfl rfl sz9 (by simp [Value.cells, Value.oneCell']) (Nat.le_of_ble_eq_true rfl) (fun _ _ h => ⟨by rw [h.1]; rfl, h.2⟩) fun k35 w a hk o36 hs => ?_
        have lh37 : (u6.set u11.toNat y30).length = l0.length := by rw [List.length_set]; exact lh9
        show wpList _ _ _ [] _ _
        refine wpList_nil ?_
        refine hK29 _ _ ?_
        apply wp_region_lit
        refine sm _ rfl hk rfl rfl rfl fun a hk => ?_
        refine sv (.int .i64 (w64 (u10 + 1))) hk rfl rfl rfl fun a hk => ?_
        refine sa _ rfl hk rfl rfl rfl fun a hk => ?_
        show wpList _ _ _ [] _ _
        refine wpList_nil ?_
        refine hK28 _ _ ?_
        apply wp_region_lit
        refine sm _ rfl hk rfl rfl rfl fun a hk => ?_
        refine sv (.int .i64 (w64 (u11 + 1))) hk rfl rfl rfl fun a hk => ?_
        refine sa _ rfl hk rfl rfl rfl fun a hk => ?_
        show wpList _ _ _ [] _ _
        refine wpList_nil ?_
        obtain rfl := Option.some.inj H
        obtain ⟨m38, hmm38, h24⟩ := h24
        show ∃ n', n' < _ ∧ I21 n' _ _
        refine ⟨m38, hmm38, ?_⟩
        rw [hI21]
        exact ⟨(u6.set u11.toNat y30), (w64 (u10 + 1)), (w64 (u11 + 1)), _, h24, (hk.c 0 rfl (hk.c 1 rfl (hk.c 5 rfl hk.k))), (hs.pick [(1, 1)] rfl), o36, lh37⟩
      · have hk := hk.lit 9 c27 rfl
        refine cnd_false hk rfl rfl ?_
        refine wp_exit ?_
        obtain rfl := Option.some.inj H
        show R20 _ _
        rw [hR20]
        exact ⟨u6, u10, _, h24.symm, (hk.c 0 rfl (hk.c 1 rfl hk.k)), (hs.pick [(1, 1)] rfl), o8, lh9⟩
  · intro a w hR0
    rw [hR20] at hR0
    obtain ⟨u12, u16, k13, rfl, hk, hs, o14, lh15⟩ := hR0
    have H := HL19
    try dsimp only at H
    refine hK2 _ _ ?_
    apply wp_seq_k; intro K39 hK39
    apply wp_region_lit
    refine sm _ rfl hk rfl rfl rfl fun a hk => ?_
    refine sa _ rfl hk rfl rfl rfl fun a hk => ?_
    show wpList _ _ _ [] _ _
    refine wpList_nil ?_
    refine hK39 _ _ ?_
    refine wp_ret ?_
    obtain rfl := Option.some.inj H
    exact fin hk _ [(.int .i64 u16)] rfl ⟨rfl, trivial⟩ ⟨_, rfl, ⟨o14, lh15⟩, (hs.pick [(0, 1)] rfl).dnil⟩

noncomputable def laws_markIoS.s0 (l0 : List S_Io) (u6 : List S_Io) (u10 : Int) (u11 : Int) : Option (((List S_Io) × Int × Int) ⊕ Ex ((List S_Io) × Int) (Int × (List S_Io))) :=
  (bif (decide (u11 < (l0.length : Int))) then (if 0 ≤ u11 ∧ u11 < (l0.length : Int) then ((laws_markText.f (w64 (u10 + 1))).bind fun y38 => (if 0 ≤ u11 ∧ u11 < (l0.length : Int) then (some (.inl (((u6.set u11.toNat (⟨u10, (u6.getD u11.toNat z_Io).Data⟩ : S_Io)).set u11.toNat (⟨((u6.set u11.toNat (⟨u10, (u6.getD u11.toNat z_Io).Data⟩ : S_Io)).getD u11.toNat z_Io).At, y38⟩ : S_Io)), (w64 ((w64 (u10 + 1)) + 1)), (w64 (u11 + 1))))) else none)) else none) else (some (.inr (.out (u6, u10)))))
noncomputable def laws_markIoS.f (l0 : List S_Io) (x1 : Int) : Option (Int × (List S_Io)) :=
  ((loopO (fun s => laws_markIoS.s0 l0 s.1 s.2.1 s.2.2) (l0, x1, 0)).bind fun o => match o with | .out (u12, u16) => (some (u16, u12)) | .ret r => (some r))
set_option maxRecDepth 100000 in
set_option maxHeartbeats 0 in
theorem laws_markIoS_t (w0 : World) (A0_ : Option Addr) (p0_ : Nat) (l0 : List S_Io) (k0_ : Chunk) (v0_ : Own L_Io 114 A0_ p0_ l0 k0_) (x1 : Int) (hs0 : Sat (blks [(1, k0_)]) w0 w0 [] [(1, k0_)]) (r : Int × (List S_Io)) (H : laws_markIoS.f l0 x1 = some r) :
    Calls Try.prog 84 #[.slice A0_ l0.length p0_, .int .i64 x1] w0 (Ret (fun v w => ∃ (k0 : Chunk), v = .int .i64 r.1 ∧ (Own L_Io 114 A0_ p0_ r.2 k0 ∧ r.2.length = l0.length) ∧ Sat (blks [(1, k0_)]) w0 w [] [(0, k0)])) := by
  have hs := hs0
  unfold laws_markIoS.f at H
  refine enter Try.func84 rfl Try.ntmps84 rfl fun a hk => ?_
  apply wp_seq_k; intro K1 hK1
  apply wp_region_lit
  refine sa _ rfl hk rfl rfl rfl fun a hk => ?_
  show wpList _ _ _ [] _ _
  refine wpList_nil ?_
  refine hK1 _ _ ?_
  apply wp_seq_k; intro K2 hK2
  apply wp_seq_k; intro K3 hK3
  apply wp_region_lit
  refine sa _ rfl hk rfl rfl rfl fun a hk => ?_
  show wpList _ _ _ [] _ _
  refine wpList_nil ?_
  refine hK3 _ _ ?_
  obtain ⟨o17, h18, HL19⟩ := bind_some H
  clear H
  obtain ⟨R20, hR20⟩ : ∃ R : Act → World → Prop, R = fun a w => ∃ (u12 : List S_Io) (u16 : Int) (k13 : Chunk), o17 = .out (u12, u16) ∧ Kn [(0, (.slice A0_ l0.length p0_)), (1, (.int .i64 u16))] 28 a ∧ Sat (blks [(1, k0_)]) w0 w [] [(1, k13)] ∧ Own L_Io 114 A0_ p0_ u12 k13 ∧ u12.length = l0.length := ⟨_, rfl⟩
  refine wp_cutq R20 ?_ ?_
  · refine wp_block ?_
    obtain ⟨fu22, h18⟩ := loopO_some h18
    obtain ⟨I21, hI21⟩ : ∃ I : Nat → Act → World → Prop, I = fun fu a w => ∃ (u6 : List S_Io) (u10 : Int) (u11 : Int) (k7 : Chunk), loopN (fun s => laws_markIoS.s0 l0 s.1 s.2.1 s.2.2) fu (u6, u10, u11) = some o17 ∧ Kn [(0, (.slice A0_ l0.length p0_)), (1, (.int .i64 u10)), (5, (.int .i64 u11))] 28 a ∧ Sat (blks [(1, k0_)]) w0 w [] [(1, k7)] ∧ Own L_Io 114 A0_ p0_ u6 k7 ∧ u6.length = l0.length := ⟨_, rfl⟩
    refine wp_loop_ghost I21 fu22 ?_ ?_
    · rw [hI21]
      exact ⟨l0, x1, 0, _, h18, (hk.c 0 rfl (hk.c 1 rfl (hk.c 5 rfl hk.k))), (hs.pick [(1, 1)] rfl), v0_, rfl⟩
    · clear h18 hk hs
      intro fu22 a w hI0
      rw [hI21] at hI0
      obtain ⟨u6, u10, u11, k7, hi, hk, hs, o8, lh9⟩ := hI0
      obtain ⟨x23, H, h24⟩ := loop_round hi
      try dsimp only at H
      unfold laws_markIoS.s0 at H
      apply wp_seq_k; intro K25 hK25
      apply wp_seq_k; intro K26 hK26
      apply wp_region_lit
      refine sm _ rfl hk rfl rfl rfl fun a hk => ?_
      refine sm _ rfl hk rfl rfl rfl fun a hk => ?_
      refine sle rfl hk rfl rfl rfl un33 fun a hk => ?_
      refine sv (.bool (decide (u11 < (l0.length : Int)))) hk rfl rfl rfl fun a hk => ?_
      show wpList _ _ _ [] _ _
      refine wpList_nil ?_
      refine hK26 _ _ ?_
      rcases cond_some H with ⟨c27, H⟩ | ⟨c27, H⟩
      · have hk := hk.lit 9 c27 rfl
        refine cnd_true hk rfl rfl ?_
        refine wp_skip ?_
        refine hK25 _ _ ?_
        apply wp_seq_k; intro K28 hK28
        refine wp_block ?_
        apply wp_seq_k; intro K29 hK29
        apply wp_region_lit
        refine sm _ rfl hk rfl rfl rfl fun a hk => ?_
        refine sm _ rfl hk rfl rfl rfl fun a hk => ?_
        refine sm _ rfl hk rfl rfl rfl fun a hk => ?_
        rcases ite_some H with ⟨c30, H⟩ | ⟨_, H⟩
        rotate_left
        · cases H
        obtain ⟨b31, q32, hAc30⟩ := (o8.view).some_ u11 c30.1 (by rw [lh9]; exact c30.2)
        refine si rfl hk rfl rfl rfl rfl un33 sz114 c30.1 c30.2 hAc30 fun a hk => ?_
        refine sf (padd A0_ (u11.toNat * 2 + 0)) rfl hk rfl rfl rfl fd114_0 (padd_add _ _ _) fun a hk => ?_
        refine so (j := 0) 1 z_Io (⟨u10, (u6.getD u11.toNat z_Io).Data⟩ : S_Io) hs rfl o8 c30.1 (by rw [lh9]; exact c30.2) rfl hk rfl rfl rfl rfl rfl sz3 (by simp [Value.cells, Value.oneCell']) (Nat.le_of_ble_eq_true rfl) (fun _ _ h => ⟨by rw [h.1]; rfl, h.2⟩) fun k33 w a hk o34 hs => ?_
        have lh35 : (u6.set u11.toNat (⟨u10, (u6.getD u11.toNat z_Io).Data⟩ : S_Io)).length = l0.length := by rw [List.length_set]; exact lh9
        show wpList _ _ _ [] _ _
        refine wpList_nil ?_
        refine hK29 _ _ ?_
        apply wp_seq_k; intro K36 hK36
        apply wp_region_lit
        refine sm _ rfl hk rfl rfl rfl fun a hk => ?_
        refine sv (.int .i64 (w64 (u10 + 1))) hk rfl rfl rfl fun a hk => ?_
        refine sa _ rfl hk rfl rfl rfl fun a hk => ?_
        show wpList _ _ _ [] _ _
        refine wpList_nil ?_
        refine hK36 _ _ ?_
        apply wp_seq_k; intro K37 hK37
        apply wp_region_lit
        refine sm _ rfl hk rfl rfl rfl fun a hk => ?_
        refine sm _ rfl hk rfl rfl rfl fun a hk => ?_
        refine sm _ rfl hk rfl rfl rfl fun a hk => ?_
        obtain ⟨y38, h39, H⟩ := bind_some H
        refine sc rfl en121 hk rfl rfl rfl (laws_markText_t _ (w64 (u10 + 1)) _ h39) ?_
        rintro _ w ⟨rfl, hG⟩ a hk
        have hs := hs.call0 hG
        rcases ite_some H with ⟨c40, H⟩ | ⟨_, H⟩
        rotate_left
        · cases H
        obtain ⟨b41, q42, hAc40⟩ := (o34.view).some_ u11 c40.1 (by rw [lh35]; exact c40.2)
        refine si rfl hk rfl rfl rfl rfl un33 sz114 c40.1 c40.2 hAc40 fun a hk => ?_
        refine sf (padd A0_ (u11.toNat * 2 + 1)) rfl hk rfl rfl rfl fd114_1 (padd_add _ _ _) fun a hk => ?_
        refine so (j := 1) 1 z_Io (⟨((u6.set u11.toNat (⟨u10, (u6.getD u11.toNat z_Io).Data⟩ : S_Io)).getD u11.toNat z_Io).At, y38⟩ : S_Io) hs rfl o34 c40.1 (by rw [lh35]; exact c40.2) rfl hk rfl rfl rfl rfl rfl sz9 (by simp [Value.cells, Value.oneCell']) (Nat.le_of_ble_eq_true rfl) (fun _ _ h => ⟨by rw [h.1]; rfl, h.2⟩) fun k43 w a hk o44 hs => ?_
        have lh45 : ((u6.set u11.toNat (⟨u10, (u6.getD u11.toNat z_Io).Data⟩ : S_Io)).set u11.toNat (⟨((u6.set u11.toNat (⟨u10, (u6.getD u11.toNat z_Io).Data⟩ : S_Io)).getD u11.toNat z_Io).At, y38⟩ : S_Io)).length = l0.length := by rw [List.length_set]; exact lh35
        show wpList _ _ _ [] _ _
        refine wpList_nil ?_
        refine hK37 _ _ ?_
        apply wp_region_lit
        refine sm _ rfl hk rfl rfl rfl fun a hk => ?_
        refine sv (.int .i64 (w64 ((w64 (u10 + 1)) + 1))) hk rfl rfl rfl fun a hk => ?_
        refine sa _ rfl hk rfl rfl rfl fun a hk => ?_
        show wpList _ _ _ [] _ _
        refine wpList_nil ?_
        refine hK28 _ _ ?_
        apply wp_region_lit
        refine sm _ rfl hk rfl rfl rfl fun a hk => ?_
        refine sv (.int .i64 (w64 (u11 + 1))) hk rfl rfl rfl fun a hk => ?_
        refine sa _ rfl hk rfl rfl rfl fun a hk => ?_
        show wpList _ _ _ [] _ _
        refine wpList_nil ?_
        obtain rfl := Option.some.inj H
        obtain ⟨m46, hmm46, h24⟩ := h24
        show ∃ n', n' < _ ∧ I21 n' _ _
        refine ⟨m46, hmm46, ?_⟩
        rw [hI21]
        exact ⟨((u6.set u11.toNat (⟨u10, (u6.getD u11.toNat z_Io).Data⟩ : S_Io)).set u11.toNat (⟨((u6.set u11.toNat (⟨u10, (u6.getD u11.toNat z_Io).Data⟩ : S_Io)).getD u11.toNat z_Io).At, y38⟩ : S_Io)), (w64 ((w64 (u10 + 1)) + 1)), (w64 (u11 + 1)), _, h24, (hk.c 0 rfl (hk.c 1 rfl (hk.c 5 rfl hk.k))), (hs.pick [(1, 1)] rfl), o44, lh45⟩
      · have hk := hk.lit 9 c27 rfl
        refine cnd_false hk rfl rfl ?_
        refine wp_exit ?_
        obtain rfl := Option.some.inj H
        show R20 _ _
        rw [hR20]
        exact ⟨u6, u10, _, h24.symm, (hk.c 0 rfl (hk.c 1 rfl hk.k)), (hs.pick [(1, 1)] rfl), o8, lh9⟩
  · intro a w hR0
    rw [hR20] at hR0
    obtain ⟨u12, u16, k13, rfl, hk, hs, o14, lh15⟩ := hR0
    have H := HL19
    try dsimp only at H
    refine hK2 _ _ ?_
    apply wp_seq_k; intro K47 hK47
    apply wp_region_lit
    refine sm _ rfl hk rfl rfl rfl fun a hk => ?_
    refine sa _ rfl hk rfl rfl rfl fun a hk => ?_
    show wpList _ _ _ [] _ _
    refine wpList_nil ?_
    refine hK47 _ _ ?_
    refine wp_ret ?_
    obtain rfl := Option.some.inj H
    exact fin hk _ [(.int .i64 u16)] rfl ⟨rfl, trivial⟩ ⟨_, rfl, ⟨o14, lh15⟩, (hs.pick [(0, 1)] rfl).dnil⟩

noncomputable def laws_markDevice.f (x0 : S_Device) (x1 : Int) : Option (Int × (List ByteArray) × (List S_Io)) :=
  ((laws_markStringS.f x0.Sure x1).bind fun y4 => ((laws_markIoS.f x0.Unsure y4.1).bind fun y11 => (some (y11.1, y4.2, y11.2))))
set_option maxRecDepth 100000 in
set_option maxHeartbeats 0 in
theorem laws_markDevice_t (w0 : World) (x0 : S_Device) (A0_0 : Option Addr) (p0_0 : Nat) (k0_0 : Chunk) (v0_0 : Own Lay.str 9 A0_0 p0_0 x0.Sure k0_0) (A0_1 : Option Addr) (p0_1 : Nat) (k0_1 : Chunk) (v0_1 : Own L_Io 114 A0_1 p0_1 x0.Unsure k0_1) (x1 : Int) (hs0 : Sat (blks [(1, k0_0), (2, k0_1)]) w0 w0 [] [(1, k0_0), (2, k0_1)]) (r : Int × (List ByteArray) × (List S_Io)) (H : laws_markDevice.f x0 x1 = some r) :
    Calls Try.prog 33 #[.agg #[.slice A0_0 x0.Sure.length p0_0, .slice A0_1 x0.Unsure.length p0_1], .int .i64 x1] w0 (Ret (fun v w => ∃ (k0 : Chunk), ∃ (k1 : Chunk), v = .int .i64 r.1 ∧ (Own Lay.str 9 A0_0 p0_0 r.2.1 k0 ∧ r.2.1.length = x0.Sure.length) ∧ (Own L_Io 114 A0_1 p0_1 r.2.2 k1 ∧ r.2.2.length = x0.Unsure.length) ∧ Sat (blks [(1, k0_0), (2, k0_1)]) w0 w [] [(0, k0), (1, k1)])) := by
  have hs := hs0
  unfold laws_markDevice.f at H
  refine enter Try.func33 rfl Try.ntmps33 rfl fun a hk => ?_
  apply wp_seq_k; intro K1 hK1
  apply wp_region_lit
  refine sbx 3 hs rfl hk rfl rfl rfl rfl fun b2 w a hk hs => ?_
  refine sa _ rfl hk rfl rfl rfl fun a hk => ?_
  show wpList _ _ _ [] _ _
  refine wpList_nil ?_
  refine hK1 _ _ ?_
  apply wp_seq_k; intro K3 hK3
  apply wp_region_lit
  refine sf ⟨b2, 0, none⟩ rfl hk rfl rfl rfl fd35_0 rfl fun a hk => ?_
  refine sl rfl hk rfl rfl rfl ag24 (box_cell hs (k := 3) rfl rfl) fun a hk => ?_
  refine sm _ rfl hk rfl rfl rfl fun a hk => ?_
  obtain ⟨y4, h5, H⟩ := bind_some H
  refine sc rfl en83 hk rfl rfl rfl (laws_markStringS_t _ A0_0 p0_0 x0.Sure _ v0_0 x1 ((hs.hand [(1, 1)] rfl).dpick [] rfl) _ h5) ?_
  rintro _ w ⟨k6, rfl, ⟨o7, lh8⟩, hG⟩ a hk
  have hs := hs.back [(1, 1)] rfl hG [1] rfl
  have lh9 : y4.2.length = x0.Sure.length := lh8
  refine sa _ rfl hk rfl rfl rfl fun a hk => ?_
  show wpList _ _ _ [] _ _
  refine wpList_nil ?_
  refine hK3 _ _ ?_
  apply wp_seq_k; intro K10 hK10
  apply wp_region_lit
  refine sf ⟨b2, 1, none⟩ rfl hk rfl rfl rfl fd35_1 rfl fun a hk => ?_
  refine sl rfl hk rfl rfl rfl ag33 (box_cell hs (k := 3) rfl rfl) fun a hk => ?_
  refine sm _ rfl hk rfl rfl rfl fun a hk => ?_
  obtain ⟨y11, h12, H⟩ := bind_some H
  refine sc rfl en84 hk rfl rfl rfl (laws_markIoS_t _ A0_1 p0_1 x0.Unsure _ v0_1 y4.1 ((hs.hand [(1, 2)] rfl).dpick [] rfl) _ h12) ?_
  rintro _ w ⟨k13, rfl, ⟨o14, lh15⟩, hG⟩ a hk
  have hs := hs.back [(1, 2)] rfl hG [2] rfl
  have lh16 : y11.2.length = x0.Unsure.length := lh15
  refine sa _ rfl hk rfl rfl rfl fun a hk => ?_
  show wpList _ _ _ [] _ _
  refine wpList_nil ?_
  refine hK10 _ _ ?_
  apply wp_seq_k; intro K17 hK17
  apply wp_region_lit
  refine sm _ rfl hk rfl rfl rfl fun a hk => ?_
  refine sa _ rfl hk rfl rfl rfl fun a hk => ?_
  show wpList _ _ _ [] _ _
  refine wpList_nil ?_
  refine hK17 _ _ ?_
  refine wp_ret ?_
  obtain rfl := Option.some.inj H
  exact fin hk _ [(.int .i64 y11.1)] rfl ⟨rfl, trivial⟩ ⟨_, _, rfl, ⟨o7, lh9⟩, ⟨o14, lh16⟩, (hs.pick [(0, 1), (1, 2)] rfl).dnil⟩

noncomputable def laws_markStore.f (x0 : S_Store) (x1 : Int) : Option (Int × (List ByteArray) × (List S_Io)) :=
  ((laws_markDevice.f x0.Device x1).bind fun y4 => (some (y4.1, y4.2.1, y4.2.2)))
set_option maxRecDepth 100000 in
set_option maxHeartbeats 0 in
theorem laws_markStore_t (w0 : World) (x0 : S_Store) (A0_0 : Option Addr) (p0_0 : Nat) (k0_0 : Chunk) (v0_0 : Own Lay.str 9 A0_0 p0_0 x0.Device.Sure k0_0) (A0_1 : Option Addr) (p0_1 : Nat) (k0_1 : Chunk) (v0_1 : Own L_Io 114 A0_1 p0_1 x0.Device.Unsure k0_1) (x1 : Int) (hs0 : Sat (blks [(1, k0_0), (2, k0_1)]) w0 w0 [] [(1, k0_0), (2, k0_1)]) (r : Int × (List ByteArray) × (List S_Io)) (H : laws_markStore.f x0 x1 = some r) :
    Calls Try.prog 39 #[.agg #[.string x0.Key, .int .i64 x0.Reg.Epoch, .int .i64 x0.Reg.Side, .int .i64 x0.Reg.Count, .int .i64 x0.Reg.Boot, .string x0.Reg.Base, .string x0.Reg.Tip, .string x0.Reg.Root, .slice A0_0 x0.Device.Sure.length p0_0, .slice A0_1 x0.Device.Unsure.length p0_1, .bool x0.Up, .bool x0.Dead], .int .i64 x1] w0 (Ret (fun v w => ∃ (k0 : Chunk), ∃ (k1 : Chunk), v = .int .i64 r.1 ∧ (Own Lay.str 9 A0_0 p0_0 r.2.1 k0 ∧ r.2.1.length = x0.Device.Sure.length) ∧ (Own L_Io 114 A0_1 p0_1 r.2.2 k1 ∧ r.2.2.length = x0.Device.Unsure.length) ∧ Sat (blks [(1, k0_0), (2, k0_1)]) w0 w [] [(0, k0), (1, k1)])) := by
  have hs := hs0
  unfold laws_markStore.f at H
  refine enter Try.func39 rfl Try.ntmps39 rfl fun a hk => ?_
  apply wp_seq_k; intro K1 hK1
  apply wp_region_lit
  refine sbx 3 hs rfl hk rfl rfl rfl rfl fun b2 w a hk hs => ?_
  refine sa _ rfl hk rfl rfl rfl fun a hk => ?_
  show wpList _ _ _ [] _ _
  refine wpList_nil ?_
  refine hK1 _ _ ?_
  apply wp_seq_k; intro K3 hK3
  apply wp_region_lit
  refine sf ⟨b2, 8, none⟩ rfl hk rfl rfl rfl fd37_2 rfl fun a hk => ?_
  refine sln [.slice A0_0 x0.Device.Sure.length p0_0, .slice A0_1 x0.Device.Unsure.length p0_1] rfl hk rfl rfl rfl ag35 sz35 (box_part hs (k := 3) rfl rfl) fun a hk => ?_
  refine sm _ rfl hk rfl rfl rfl fun a hk => ?_
  obtain ⟨y4, h5, H⟩ := bind_some H
  refine sc rfl en33 hk rfl rfl rfl (laws_markDevice_t _ x0.Device A0_0 p0_0 _ v0_0 A0_1 p0_1 _ v0_1 x1 ((hs.hand [(1, 1), (2, 2)] rfl).dpick [] rfl) _ h5) ?_
  rintro _ w ⟨k6, k9, rfl, ⟨o7, lh8⟩, ⟨o10, lh11⟩, hG⟩ a hk
  have hs := hs.back [(1, 1), (2, 2)] rfl hG [1, 2] rfl
  have lh12 : y4.2.1.length = x0.Device.Sure.length := lh8
  have lh13 : y4.2.2.length = x0.Device.Unsure.length := lh11
  refine sa _ rfl hk rfl rfl rfl fun a hk => ?_
  show wpList _ _ _ [] _ _
  refine wpList_nil ?_
  refine hK3 _ _ ?_
  apply wp_seq_k; intro K14 hK14
  apply wp_region_lit
  refine sm _ rfl hk rfl rfl rfl fun a hk => ?_
  refine sa _ rfl hk rfl rfl rfl fun a hk => ?_
  show wpList _ _ _ [] _ _
  refine wpList_nil ?_
  refine hK14 _ _ ?_
  refine wp_ret ?_
  obtain rfl := Option.some.inj H
  exact fin hk _ [(.int .i64 y4.1)] rfl ⟨rfl, trivial⟩ ⟨_, _, rfl, ⟨o7, lh12⟩, ⟨o10, lh13⟩, (hs.pick [(0, 1), (1, 2)] rfl).dnil⟩

noncomputable def laws_heldStringS.s0 (l0 : List ByteArray) (u6 : Int) (u7 : Int) : Option ((Int × Int) ⊕ Ex (Int) (Int)) :=
  (bif (decide (u7 < (l0.length : Int))) then (if 0 ≤ u7 ∧ u7 < (l0.length : Int) then ((laws_markText.f u6).bind fun y28 => (bif (!((l0.getD u7.toNat ByteArray.empty).toList == y28.toList)) then (some (.inr (.ret (-1)))) else (some (.inl ((w64 (u6 + 1)), (w64 (u7 + 1))))))) else none) else (some (.inr (.out u6))))
noncomputable def laws_heldStringS.f (l0 : List ByteArray) (x1 : Int) : Option (Int) :=
  ((loopO (fun s => laws_heldStringS.s0 l0 s.1 s.2) (x1, 0)).bind fun o => match o with | .out u8 => (some u8) | .ret r => (some r))
set_option maxRecDepth 100000 in
set_option maxHeartbeats 0 in
theorem laws_heldStringS_t (w0 : World) (A0_ : Option Addr) (p0_ : Nat) (l0 : List ByteArray) (k0_ : Chunk) (v0_ : View Lay.str A0_ p0_ l0 k0_) (w0_ : Has w0 k0_) (x1 : Int) (r : Int) (H : laws_heldStringS.f l0 x1 = some r) :
    Calls Try.prog 85 #[.slice A0_ l0.length p0_, .int .i64 x1] w0 (Ret (fun v w => v = .int .i64 r ∧ Sat [] w0 w [] [])) := by
  have hs : Sat [] w0 w0 [(1, k0_)] [] := Sat.init w0 [(1, k0_)] [] (by simp only [List.mem_cons, List.not_mem_nil, or_false]; rintro x (rfl) <;> assumption) (by simp) List.nodup_nil (by simp [blks])
  unfold laws_heldStringS.f at H
  refine enter Try.func85 rfl Try.ntmps85 rfl fun a hk => ?_
  apply wp_seq_k; intro K1 hK1
  apply wp_region_lit
  refine sa _ rfl hk rfl rfl rfl fun a hk => ?_
  show wpList _ _ _ [] _ _
  refine wpList_nil ?_
  refine hK1 _ _ ?_
  apply wp_seq_k; intro K2 hK2
  apply wp_seq_k; intro K3 hK3
  apply wp_region_lit
  refine sa _ rfl hk rfl rfl rfl fun a hk => ?_
  show wpList _ _ _ [] _ _
  refine wpList_nil ?_
  refine hK3 _ _ ?_
  obtain ⟨o9, h10, HL11⟩ := bind_some H
  clear H
  obtain ⟨R12, hR12⟩ : ∃ R : Act → World → Prop, R = fun a w => ∃ (u8 : Int), o9 = .out u8 ∧ Kn [(1, (.int .i64 u8))] 22 a ∧ Sat [] w0 w [(1, k0_)] [] := ⟨_, rfl⟩
  refine wp_cutq R12 ?_ ?_
  · refine wp_block ?_
    obtain ⟨fu14, h10⟩ := loopO_some h10
    obtain ⟨I13, hI13⟩ : ∃ I : Nat → Act → World → Prop, I = fun fu a w => ∃ (u6 : Int) (u7 : Int), loopN (fun s => laws_heldStringS.s0 l0 s.1 s.2) fu (u6, u7) = some o9 ∧ Kn [(0, (.slice A0_ l0.length p0_)), (1, (.int .i64 u6)), (5, (.int .i64 u7))] 22 a ∧ Sat [] w0 w [(1, k0_)] [] := ⟨_, rfl⟩
    refine wp_loop_ghost I13 fu14 ?_ ?_
    · rw [hI13]
      exact ⟨x1, 0, h10, (hk.c 0 rfl (hk.c 1 rfl (hk.c 5 rfl hk.k))), (hs.pick [] rfl)⟩
    · clear h10 hk hs
      intro fu14 a w hI0
      rw [hI13] at hI0
      obtain ⟨u6, u7, hi, hk, hs⟩ := hI0
      obtain ⟨x15, H, h16⟩ := loop_round hi
      try dsimp only at H
      unfold laws_heldStringS.s0 at H
      apply wp_seq_k; intro K17 hK17
      apply wp_seq_k; intro K18 hK18
      apply wp_region_lit
      refine sm _ rfl hk rfl rfl rfl fun a hk => ?_
      refine sm _ rfl hk rfl rfl rfl fun a hk => ?_
      refine sle rfl hk rfl rfl rfl un24 fun a hk => ?_
      refine sv (.bool (decide (u7 < (l0.length : Int)))) hk rfl rfl rfl fun a hk => ?_
      show wpList _ _ _ [] _ _
      refine wpList_nil ?_
      refine hK18 _ _ ?_
      rcases cond_some H with ⟨c19, H⟩ | ⟨c19, H⟩
      · have hk := hk.lit 9 c19 rfl
        refine cnd_true hk rfl rfl ?_
        refine wp_skip ?_
        refine hK17 _ _ ?_
        apply wp_seq_k; intro K20 hK20
        refine wp_block ?_
        apply wp_seq_k; intro K21 hK21
        apply wp_seq_k; intro K22 hK22
        refine wp_region_tree (.q 0 (.q 1 (.q 2 (.q 3 (.alt 4 (.alt 5 (.alt 6 .done .stop) .stop) .stop))))) mo (by kernel_rfl) (hs.pick [] rfl) fun _ => ?_
        have hs := hs.drew
        refine tqst (.slice A0_ l0.length p0_) hk rfl rfl rfl rfl (fun w hs => sm _ rfl hk rfl rfl rfl fun a hk => qe hk) fun a hk => ?_
        refine tqst (.int .i64 u7) hk rfl rfl rfl rfl (fun w hs => sm _ rfl hk rfl rfl rfl fun a hk => qe hk) fun a hk => ?_
        rcases ite_some H with ⟨c24, H⟩ | ⟨_, H⟩
        rotate_left
        · cases H
        obtain ⟨b25, q26, hAc24⟩ := (v0_).some_ u7 c24.1 c24.2
        refine tqst (.pointer (some (padd A0_ (u7.toNat * 1)))) hk rfl rfl rfl rfl (fun w hs => si rfl hk rfl rfl rfl rfl un24 sz9 c24.1 c24.2 hAc24 fun a hk => qe hk) fun a hk => ?_
        obtain ⟨_, rfl, e27⟩ := (v0_).at_ ByteArray.empty u7 c24.1 c24.2
        refine tqst (.string (l0.getD u7.toNat ByteArray.empty)) hk rfl rfl rfl rfl (fun w hs => sl (v := (.string (l0.getD u7.toNat ByteArray.empty))) rfl hk rfl rfl rfl ag9 ((e27 0 _ rfl).cell (hs.hasD (k := 1) rfl)) fun a hk => qe hk) fun a hk => ?_
        refine tsst hk rfl rfl (fun K_r23_4 hK_r23_4 w hF => ?_) wt_stop
        have hs := hs.f hF
        refine sm _ rfl hk rfl rfl rfl fun a hk => ?_
        refine se (hs.pick [] rfl) hk (hK_r23_4 _ _ ?_)
        refine tsst hk rfl rfl (fun K_r23_5 hK_r23_5 w hF => ?_) wt_stop
        have hs := hs.f hF
        obtain ⟨y28, h29, H⟩ := bind_some H
        refine sc rfl en121 hk rfl rfl rfl (laws_markText_t _ u6 _ h29) ?_
        rintro _ w ⟨rfl, hG⟩ a hk
        have hs := hs.call0 hG
        refine se (hs.pick [] rfl) hk (hK_r23_5 _ _ ?_)
        refine tsst hk rfl rfl (fun K_r23_6 hK_r23_6 w hF => ?_) wt_stop
        have hs := hs.f hF
        refine sv (.bool (!((l0.getD u7.toNat ByteArray.empty).toList == y28.toList))) hk rfl rfl rfl fun a hk => ?_
        refine se (hs.pick [] rfl) hk (hK_r23_6 _ _ ?_)
        refine wtl_nil fun w hF _ => ?_
        have hs := hs.f hF
        refine hK22 _ _ ?_
        rcases cond_some H with ⟨c30, H⟩ | ⟨c30, H⟩
        · have hk := hk.lit 18 c30 rfl
          refine cnd_true hk rfl rfl ?_
          apply wp_seq_k; intro K31 hK31
          apply wp_region_lit
          refine sa _ rfl hk rfl rfl rfl fun a hk => ?_
          show wpList _ _ _ [] _ _
          refine wpList_nil ?_
          refine hK31 _ _ ?_
          refine wp_ret ?_
          obtain rfl := Option.some.inj H
          have ho9 := h16
          try dsimp only at ho9
          subst ho9
          have H := HL11
          try dsimp only at H
          obtain rfl := Option.some.inj H
          exact fin hk _ [(.int .i64 (-1))] rfl ⟨rfl, trivial⟩ ⟨rfl, (hs.pick [] rfl).dnil⟩
        · have hk := hk.lit 18 c30 rfl
          refine cnd_false hk rfl rfl ?_
          refine wp_skip ?_
          refine hK21 _ _ ?_
          apply wp_region_lit
          refine sm _ rfl hk rfl rfl rfl fun a hk => ?_
          refine sv (.int .i64 (w64 (u6 + 1))) hk rfl rfl rfl fun a hk => ?_
          refine sa _ rfl hk rfl rfl rfl fun a hk => ?_
          show wpList _ _ _ [] _ _
          refine wpList_nil ?_
          refine hK20 _ _ ?_
          apply wp_region_lit
          refine sm _ rfl hk rfl rfl rfl fun a hk => ?_
          refine sv (.int .i64 (w64 (u7 + 1))) hk rfl rfl rfl fun a hk => ?_
          refine sa _ rfl hk rfl rfl rfl fun a hk => ?_
          show wpList _ _ _ [] _ _
          refine wpList_nil ?_
          obtain rfl := Option.some.inj H
          obtain ⟨m32, hmm32, h16⟩ := h16
          show ∃ n', n' < _ ∧ I13 n' _ _
          refine ⟨m32, hmm32, ?_⟩
          rw [hI13]
          exact ⟨(w64 (u6 + 1)), (w64 (u7 + 1)), h16, (hk.c 0 rfl (hk.c 1 rfl (hk.c 5 rfl hk.k))), (hs.pick [] rfl)⟩
      · have hk := hk.lit 9 c19 rfl
        refine cnd_false hk rfl rfl ?_
        refine wp_exit ?_
        obtain rfl := Option.some.inj H
        show R12 _ _
        rw [hR12]
        exact ⟨u6, h16.symm, (hk.c 1 rfl hk.k), (hs.pick [] rfl)⟩
  · intro a w hR0
    rw [hR12] at hR0
    obtain ⟨u8, rfl, hk, hs⟩ := hR0
    have H := HL11
    try dsimp only at H
    refine hK2 _ _ ?_
    apply wp_seq_k; intro K33 hK33
    apply wp_region_lit
    refine sm _ rfl hk rfl rfl rfl fun a hk => ?_
    refine sa _ rfl hk rfl rfl rfl fun a hk => ?_
    show wpList _ _ _ [] _ _
    refine wpList_nil ?_
    refine hK33 _ _ ?_
    refine wp_ret ?_
    obtain rfl := Option.some.inj H
    exact fin hk _ [(.int .i64 u8)] rfl ⟨rfl, trivial⟩ ⟨rfl, (hs.pick [] rfl).dnil⟩

noncomputable def laws_heldIoS.s0 (l0 : List S_Io) (u6 : Int) (u7 : Int) : Option ((Int × Int) ⊕ Ex (Int) (Int)) :=
  (bif (decide (u7 < (l0.length : Int))) then (if 0 ≤ u7 ∧ u7 < (l0.length : Int) then (bif (((l0.getD u7.toNat z_Io).At) != u6) then (some (.inr (.ret (-1)))) else (if 0 ≤ u7 ∧ u7 < (l0.length : Int) then ((laws_markText.f (w64 (u6 + 1))).bind fun y37 => (bif (!(((l0.getD u7.toNat z_Io).Data).toList == y37.toList)) then (some (.inr (.ret (-1)))) else (some (.inl ((w64 ((w64 (u6 + 1)) + 1)), (w64 (u7 + 1))))))) else none)) else none) else (some (.inr (.out u6))))
noncomputable def laws_heldIoS.f (l0 : List S_Io) (x1 : Int) : Option (Int) :=
  ((loopO (fun s => laws_heldIoS.s0 l0 s.1 s.2) (x1, 0)).bind fun o => match o with | .out u8 => (some u8) | .ret r => (some r))
set_option maxRecDepth 100000 in
set_option maxHeartbeats 0 in
theorem laws_heldIoS_t (w0 : World) (A0_ : Option Addr) (p0_ : Nat) (l0 : List S_Io) (k0_ : Chunk) (v0_ : View L_Io A0_ p0_ l0 k0_) (w0_ : Has w0 k0_) (x1 : Int) (r : Int) (H : laws_heldIoS.f l0 x1 = some r) :
    Calls Try.prog 86 #[.slice A0_ l0.length p0_, .int .i64 x1] w0 (Ret (fun v w => v = .int .i64 r ∧ Sat [] w0 w [] [])) := by
  have hs : Sat [] w0 w0 [(1, k0_)] [] := Sat.init w0 [(1, k0_)] [] (by simp only [List.mem_cons, List.not_mem_nil, or_false]; rintro x (rfl) <;> assumption) (by simp) List.nodup_nil (by simp [blks])
  unfold laws_heldIoS.f at H
  refine enter Try.func86 rfl Try.ntmps86 rfl fun a hk => ?_
  apply wp_seq_k; intro K1 hK1
  apply wp_region_lit
  refine sa _ rfl hk rfl rfl rfl fun a hk => ?_
  show wpList _ _ _ [] _ _
  refine wpList_nil ?_
  refine hK1 _ _ ?_
  apply wp_seq_k; intro K2 hK2
  apply wp_seq_k; intro K3 hK3
  apply wp_region_lit
  refine sa _ rfl hk rfl rfl rfl fun a hk => ?_
  show wpList _ _ _ [] _ _
  refine wpList_nil ?_
  refine hK3 _ _ ?_
  obtain ⟨o9, h10, HL11⟩ := bind_some H
  clear H
  obtain ⟨R12, hR12⟩ : ∃ R : Act → World → Prop, R = fun a w => ∃ (u8 : Int), o9 = .out u8 ∧ Kn [(1, (.int .i64 u8))] 32 a ∧ Sat [] w0 w [(1, k0_)] [] := ⟨_, rfl⟩
  refine wp_cutq R12 ?_ ?_
  · refine wp_block ?_
    obtain ⟨fu14, h10⟩ := loopO_some h10
    obtain ⟨I13, hI13⟩ : ∃ I : Nat → Act → World → Prop, I = fun fu a w => ∃ (u6 : Int) (u7 : Int), loopN (fun s => laws_heldIoS.s0 l0 s.1 s.2) fu (u6, u7) = some o9 ∧ Kn [(0, (.slice A0_ l0.length p0_)), (1, (.int .i64 u6)), (5, (.int .i64 u7))] 32 a ∧ Sat [] w0 w [(1, k0_)] [] := ⟨_, rfl⟩
    refine wp_loop_ghost I13 fu14 ?_ ?_
    · rw [hI13]
      exact ⟨x1, 0, h10, (hk.c 0 rfl (hk.c 1 rfl (hk.c 5 rfl hk.k))), (hs.pick [] rfl)⟩
    · clear h10 hk hs
      intro fu14 a w hI0
      rw [hI13] at hI0
      obtain ⟨u6, u7, hi, hk, hs⟩ := hI0
      obtain ⟨x15, H, h16⟩ := loop_round hi
      try dsimp only at H
      unfold laws_heldIoS.s0 at H
      apply wp_seq_k; intro K17 hK17
      apply wp_seq_k; intro K18 hK18
      apply wp_region_lit
      refine sm _ rfl hk rfl rfl rfl fun a hk => ?_
      refine sm _ rfl hk rfl rfl rfl fun a hk => ?_
      refine sle rfl hk rfl rfl rfl un33 fun a hk => ?_
      refine sv (.bool (decide (u7 < (l0.length : Int)))) hk rfl rfl rfl fun a hk => ?_
      show wpList _ _ _ [] _ _
      refine wpList_nil ?_
      refine hK18 _ _ ?_
      rcases cond_some H with ⟨c19, H⟩ | ⟨c19, H⟩
      · have hk := hk.lit 9 c19 rfl
        refine cnd_true hk rfl rfl ?_
        refine wp_skip ?_
        refine hK17 _ _ ?_
        apply wp_seq_k; intro K20 hK20
        refine wp_block ?_
        apply wp_seq_k; intro K21 hK21
        apply wp_seq_k; intro K22 hK22
        apply wp_region_lit
        refine sm _ rfl hk rfl rfl rfl fun a hk => ?_
        refine sm _ rfl hk rfl rfl rfl fun a hk => ?_
        rcases ite_some H with ⟨c23, H⟩ | ⟨_, H⟩
        rotate_left
        · cases H
        obtain ⟨b24, q25, hAc23⟩ := (v0_).some_ u7 c23.1 c23.2
        refine si rfl hk rfl rfl rfl rfl un33 sz114 c23.1 c23.2 hAc23 fun a hk => ?_
        refine sf (padd A0_ (u7.toNat * 2 + 0)) rfl hk rfl rfl rfl fd114_0 (padd_add _ _ _) fun a hk => ?_
        obtain ⟨_, rfl, e26⟩ := (v0_).at_ z_Io u7 c23.1 c23.2
        refine sl (v := (.int .i64 ((l0.getD u7.toNat z_Io).At))) rfl hk rfl rfl rfl ag3 ((e26 0 _ rfl).cell (hs.hasD (k := 1) rfl)) fun a hk => ?_
        refine sm _ rfl hk rfl rfl rfl fun a hk => ?_
        refine sv (.bool (((l0.getD u7.toNat z_Io).At) != u6)) hk rfl rfl rfl fun a hk => ?_
        show wpList _ _ _ [] _ _
        refine wpList_nil ?_
        refine hK22 _ _ ?_
        rcases cond_some H with ⟨c27, H⟩ | ⟨c27, H⟩
        · have hk := hk.lit 18 c27 rfl
          refine cnd_true hk rfl rfl ?_
          apply wp_seq_k; intro K28 hK28
          apply wp_region_lit
          refine sa _ rfl hk rfl rfl rfl fun a hk => ?_
          show wpList _ _ _ [] _ _
          refine wpList_nil ?_
          refine hK28 _ _ ?_
          refine wp_ret ?_
          obtain rfl := Option.some.inj H
          have ho9 := h16
          try dsimp only at ho9
          subst ho9
          have H := HL11
          try dsimp only at H
          obtain rfl := Option.some.inj H
          exact fin hk _ [(.int .i64 (-1))] rfl ⟨rfl, trivial⟩ ⟨rfl, (hs.pick [] rfl).dnil⟩
        · have hk := hk.lit 18 c27 rfl
          refine cnd_false hk rfl rfl ?_
          refine wp_skip ?_
          refine hK21 _ _ ?_
          apply wp_seq_k; intro K29 hK29
          apply wp_region_lit
          refine sm _ rfl hk rfl rfl rfl fun a hk => ?_
          refine sv (.int .i64 (w64 (u6 + 1))) hk rfl rfl rfl fun a hk => ?_
          refine sa _ rfl hk rfl rfl rfl fun a hk => ?_
          show wpList _ _ _ [] _ _
          refine wpList_nil ?_
          refine hK29 _ _ ?_
          apply wp_seq_k; intro K30 hK30
          apply wp_seq_k; intro K31 hK31
          refine wp_region_tree (.q 0 (.q 1 (.q 2 (.q 3 (.q 4 (.alt 5 (.alt 6 (.alt 7 .done .stop) .stop) .stop)))))) mo (by kernel_rfl) (hs.pick [] rfl) fun _ => ?_
          have hs := hs.drew
          refine tqst (.slice A0_ l0.length p0_) hk rfl rfl rfl rfl (fun w hs => sm _ rfl hk rfl rfl rfl fun a hk => qe hk) fun a hk => ?_
          refine tqst (.int .i64 u7) hk rfl rfl rfl rfl (fun w hs => sm _ rfl hk rfl rfl rfl fun a hk => qe hk) fun a hk => ?_
          rcases ite_some H with ⟨c33, H⟩ | ⟨_, H⟩
          rotate_left
          · cases H
          obtain ⟨b34, q35, hAc33⟩ := (v0_).some_ u7 c33.1 c33.2
          refine tqst (.pointer (some (padd A0_ (u7.toNat * 2)))) hk rfl rfl rfl rfl (fun w hs => si rfl hk rfl rfl rfl rfl un33 sz114 c33.1 c33.2 hAc33 fun a hk => qe hk) fun a hk => ?_
          refine tqst (.pointer (some (padd A0_ (u7.toNat * 2 + 1)))) hk rfl rfl rfl rfl (fun w hs => sf (padd A0_ (u7.toNat * 2 + 1)) rfl hk rfl rfl rfl fd114_1 (padd_add _ _ _) fun a hk => qe hk) fun a hk => ?_
          obtain ⟨_, rfl, e36⟩ := (v0_).at_ z_Io u7 c33.1 c33.2
          refine tqst (.string ((l0.getD u7.toNat z_Io).Data)) hk rfl rfl rfl rfl (fun w hs => sl (v := (.string ((l0.getD u7.toNat z_Io).Data))) rfl hk rfl rfl rfl ag9 ((e36 1 _ rfl).cell (hs.hasD (k := 1) rfl)) fun a hk => qe hk) fun a hk => ?_
          refine tsst hk rfl rfl (fun K_r32_5 hK_r32_5 w hF => ?_) wt_stop
          have hs := hs.f hF
          refine sm _ rfl hk rfl rfl rfl fun a hk => ?_
          refine se (hs.pick [] rfl) hk (hK_r32_5 _ _ ?_)
          refine tsst hk rfl rfl (fun K_r32_6 hK_r32_6 w hF => ?_) wt_stop
          have hs := hs.f hF
          obtain ⟨y37, h38, H⟩ := bind_some H
          refine sc rfl en121 hk rfl rfl rfl (laws_markText_t _ (w64 (u6 + 1)) _ h38) ?_
          rintro _ w ⟨rfl, hG⟩ a hk
          have hs := hs.call0 hG
          refine se (hs.pick [] rfl) hk (hK_r32_6 _ _ ?_)
          refine tsst hk rfl rfl (fun K_r32_7 hK_r32_7 w hF => ?_) wt_stop
          have hs := hs.f hF
          refine sv (.bool (!(((l0.getD u7.toNat z_Io).Data).toList == y37.toList))) hk rfl rfl rfl fun a hk => ?_
          refine se (hs.pick [] rfl) hk (hK_r32_7 _ _ ?_)
          refine wtl_nil fun w hF _ => ?_
          have hs := hs.f hF
          refine hK31 _ _ ?_
          rcases cond_some H with ⟨c39, H⟩ | ⟨c39, H⟩
          · have hk := hk.lit 28 c39 rfl
            refine cnd_true hk rfl rfl ?_
            apply wp_seq_k; intro K40 hK40
            apply wp_region_lit
            refine sa _ rfl hk rfl rfl rfl fun a hk => ?_
            show wpList _ _ _ [] _ _
            refine wpList_nil ?_
            refine hK40 _ _ ?_
            refine wp_ret ?_
            obtain rfl := Option.some.inj H
            have ho9 := h16
            try dsimp only at ho9
            subst ho9
            have H := HL11
            try dsimp only at H
            obtain rfl := Option.some.inj H
            exact fin hk _ [(.int .i64 (-1))] rfl ⟨rfl, trivial⟩ ⟨rfl, (hs.pick [] rfl).dnil⟩
          · have hk := hk.lit 28 c39 rfl
            refine cnd_false hk rfl rfl ?_
            refine wp_skip ?_
            refine hK30 _ _ ?_
            apply wp_region_lit
            refine sm _ rfl hk rfl rfl rfl fun a hk => ?_
            refine sv (.int .i64 (w64 ((w64 (u6 + 1)) + 1))) hk rfl rfl rfl fun a hk => ?_
            refine sa _ rfl hk rfl rfl rfl fun a hk => ?_
            show wpList _ _ _ [] _ _
            refine wpList_nil ?_
            refine hK20 _ _ ?_
            apply wp_region_lit
            refine sm _ rfl hk rfl rfl rfl fun a hk => ?_
            refine sv (.int .i64 (w64 (u7 + 1))) hk rfl rfl rfl fun a hk => ?_
            refine sa _ rfl hk rfl rfl rfl fun a hk => ?_
            show wpList _ _ _ [] _ _
            refine wpList_nil ?_
            obtain rfl := Option.some.inj H
            obtain ⟨m41, hmm41, h16⟩ := h16
            show ∃ n', n' < _ ∧ I13 n' _ _
            refine ⟨m41, hmm41, ?_⟩
            rw [hI13]
            exact ⟨(w64 ((w64 (u6 + 1)) + 1)), (w64 (u7 + 1)), h16, (hk.c 0 rfl (hk.c 1 rfl (hk.c 5 rfl hk.k))), (hs.pick [] rfl)⟩
      · have hk := hk.lit 9 c19 rfl
        refine cnd_false hk rfl rfl ?_
        refine wp_exit ?_
        obtain rfl := Option.some.inj H
        show R12 _ _
        rw [hR12]
        exact ⟨u6, h16.symm, (hk.c 1 rfl hk.k), (hs.pick [] rfl)⟩
  · intro a w hR0
    rw [hR12] at hR0
    obtain ⟨u8, rfl, hk, hs⟩ := hR0
    have H := HL11
    try dsimp only at H
    refine hK2 _ _ ?_
    apply wp_seq_k; intro K42 hK42
    apply wp_region_lit
    refine sm _ rfl hk rfl rfl rfl fun a hk => ?_
    refine sa _ rfl hk rfl rfl rfl fun a hk => ?_
    show wpList _ _ _ [] _ _
    refine wpList_nil ?_
    refine hK42 _ _ ?_
    refine wp_ret ?_
    obtain rfl := Option.some.inj H
    exact fin hk _ [(.int .i64 u8)] rfl ⟨rfl, trivial⟩ ⟨rfl, (hs.pick [] rfl).dnil⟩

noncomputable def laws_heldDevice.f (x0 : S_Device) (x1 : Int) : Option (Int) :=
  ((laws_heldStringS.f x0.Sure x1).bind fun y4 => (bif (decide (y4 < 0)) then (some (-1)) else ((laws_heldIoS.f x0.Unsure y4).bind fun y11 => (bif (decide (y11 < 0)) then (some (-1)) else (some y11)))))
set_option maxRecDepth 100000 in
set_option maxHeartbeats 0 in
theorem laws_heldDevice_t (w0 : World) (x0 : S_Device) (A0_0 : Option Addr) (p0_0 : Nat) (k0_0 : Chunk) (v0_0 : View Lay.str A0_0 p0_0 x0.Sure k0_0) (w0_0 : Has w0 k0_0) (A0_1 : Option Addr) (p0_1 : Nat) (k0_1 : Chunk) (v0_1 : View L_Io A0_1 p0_1 x0.Unsure k0_1) (w0_1 : Has w0 k0_1) (x1 : Int) (r : Int) (H : laws_heldDevice.f x0 x1 = some r) :
    Calls Try.prog 34 #[.agg #[.slice A0_0 x0.Sure.length p0_0, .slice A0_1 x0.Unsure.length p0_1], .int .i64 x1] w0 (Ret (fun v w => v = .int .i64 r ∧ Sat [] w0 w [] [])) := by
  have hs : Sat [] w0 w0 [(1, k0_0), (2, k0_1)] [] := Sat.init w0 [(1, k0_0), (2, k0_1)] [] (by simp only [List.mem_cons, List.not_mem_nil, or_false]; rintro x (rfl | rfl) <;> assumption) (by simp) List.nodup_nil (by simp [blks])
  unfold laws_heldDevice.f at H
  refine enter Try.func34 rfl Try.ntmps34 rfl fun a hk => ?_
  apply wp_seq_k; intro K1 hK1
  apply wp_region_lit
  refine sbx 3 hs rfl hk rfl rfl rfl rfl fun b2 w a hk hs => ?_
  refine sa _ rfl hk rfl rfl rfl fun a hk => ?_
  show wpList _ _ _ [] _ _
  refine wpList_nil ?_
  refine hK1 _ _ ?_
  apply wp_seq_k; intro K3 hK3
  apply wp_region_lit
  refine sf ⟨b2, 0, none⟩ rfl hk rfl rfl rfl fd35_0 rfl fun a hk => ?_
  refine sl rfl hk rfl rfl rfl ag24 (box_cell hs (k := 3) rfl rfl) fun a hk => ?_
  refine sm _ rfl hk rfl rfl rfl fun a hk => ?_
  obtain ⟨y4, h5, H⟩ := bind_some H
  refine sc rfl en85 hk rfl rfl rfl (laws_heldStringS_t _ A0_0 p0_0 x0.Sure _ v0_0 (hs.hasD (k := 1) rfl) x1 _ h5) ?_
  rintro _ w ⟨rfl, hG⟩ a hk
  have hs := hs.call0 hG
  refine sa _ rfl hk rfl rfl rfl fun a hk => ?_
  show wpList _ _ _ [] _ _
  refine wpList_nil ?_
  refine hK3 _ _ ?_
  apply wp_seq_k; intro K6 hK6
  apply wp_seq_k; intro K7 hK7
  apply wp_region_lit
  refine sm _ rfl hk rfl rfl rfl fun a hk => ?_
  refine sv (.bool (decide (y4 < 0))) hk rfl rfl rfl fun a hk => ?_
  show wpList _ _ _ [] _ _
  refine wpList_nil ?_
  refine hK7 _ _ ?_
  rcases cond_some H with ⟨c8, H⟩ | ⟨c8, H⟩
  · have hk := hk.lit 10 c8 rfl
    refine cnd_true hk rfl rfl ?_
    apply wp_seq_k; intro K9 hK9
    apply wp_region_lit
    refine sa _ rfl hk rfl rfl rfl fun a hk => ?_
    show wpList _ _ _ [] _ _
    refine wpList_nil ?_
    refine hK9 _ _ ?_
    refine wp_ret ?_
    obtain rfl := Option.some.inj H
    exact fin hk _ [(.int .i64 (-1))] rfl ⟨rfl, trivial⟩ ⟨rfl, (hs.pick [] rfl).dnil⟩
  · have hk := hk.lit 10 c8 rfl
    refine cnd_false hk rfl rfl ?_
    refine wp_skip ?_
    refine hK6 _ _ ?_
    apply wp_seq_k; intro K10 hK10
    apply wp_region_lit
    refine sf ⟨b2, 1, none⟩ rfl hk rfl rfl rfl fd35_1 rfl fun a hk => ?_
    refine sl rfl hk rfl rfl rfl ag33 (box_cell hs (k := 3) rfl rfl) fun a hk => ?_
    refine sm _ rfl hk rfl rfl rfl fun a hk => ?_
    obtain ⟨y11, h12, H⟩ := bind_some H
    refine sc rfl en86 hk rfl rfl rfl (laws_heldIoS_t _ A0_1 p0_1 x0.Unsure _ v0_1 (hs.hasD (k := 2) rfl) y4 _ h12) ?_
    rintro _ w ⟨rfl, hG⟩ a hk
    have hs := hs.call0 hG
    refine sa _ rfl hk rfl rfl rfl fun a hk => ?_
    show wpList _ _ _ [] _ _
    refine wpList_nil ?_
    refine hK10 _ _ ?_
    apply wp_seq_k; intro K13 hK13
    apply wp_seq_k; intro K14 hK14
    apply wp_region_lit
    refine sm _ rfl hk rfl rfl rfl fun a hk => ?_
    refine sv (.bool (decide (y11 < 0))) hk rfl rfl rfl fun a hk => ?_
    show wpList _ _ _ [] _ _
    refine wpList_nil ?_
    refine hK14 _ _ ?_
    rcases cond_some H with ⟨c15, H⟩ | ⟨c15, H⟩
    · have hk := hk.lit 16 c15 rfl
      refine cnd_true hk rfl rfl ?_
      apply wp_seq_k; intro K16 hK16
      apply wp_region_lit
      refine sa _ rfl hk rfl rfl rfl fun a hk => ?_
      show wpList _ _ _ [] _ _
      refine wpList_nil ?_
      refine hK16 _ _ ?_
      refine wp_ret ?_
      obtain rfl := Option.some.inj H
      exact fin hk _ [(.int .i64 (-1))] rfl ⟨rfl, trivial⟩ ⟨rfl, (hs.pick [] rfl).dnil⟩
    · have hk := hk.lit 16 c15 rfl
      refine cnd_false hk rfl rfl ?_
      refine wp_skip ?_
      refine hK13 _ _ ?_
      apply wp_seq_k; intro K17 hK17
      apply wp_region_lit
      refine sm _ rfl hk rfl rfl rfl fun a hk => ?_
      refine sa _ rfl hk rfl rfl rfl fun a hk => ?_
      show wpList _ _ _ [] _ _
      refine wpList_nil ?_
      refine hK17 _ _ ?_
      refine wp_ret ?_
      obtain rfl := Option.some.inj H
      exact fin hk _ [(.int .i64 y11)] rfl ⟨rfl, trivial⟩ ⟨rfl, (hs.pick [] rfl).dnil⟩

noncomputable def laws_heldStore.f (x0 : S_Store) (x1 : Int) : Option (Int) :=
  ((laws_heldDevice.f x0.Device x1).bind fun y4 => (bif (decide (y4 < 0)) then (some (-1)) else (some y4)))
set_option maxRecDepth 100000 in
set_option maxHeartbeats 0 in
theorem laws_heldStore_t (w0 : World) (x0 : S_Store) (A0_0 : Option Addr) (p0_0 : Nat) (k0_0 : Chunk) (v0_0 : View Lay.str A0_0 p0_0 x0.Device.Sure k0_0) (w0_0 : Has w0 k0_0) (A0_1 : Option Addr) (p0_1 : Nat) (k0_1 : Chunk) (v0_1 : View L_Io A0_1 p0_1 x0.Device.Unsure k0_1) (w0_1 : Has w0 k0_1) (x1 : Int) (r : Int) (H : laws_heldStore.f x0 x1 = some r) :
    Calls Try.prog 40 #[.agg #[.string x0.Key, .int .i64 x0.Reg.Epoch, .int .i64 x0.Reg.Side, .int .i64 x0.Reg.Count, .int .i64 x0.Reg.Boot, .string x0.Reg.Base, .string x0.Reg.Tip, .string x0.Reg.Root, .slice A0_0 x0.Device.Sure.length p0_0, .slice A0_1 x0.Device.Unsure.length p0_1, .bool x0.Up, .bool x0.Dead], .int .i64 x1] w0 (Ret (fun v w => v = .int .i64 r ∧ Sat [] w0 w [] [])) := by
  have hs : Sat [] w0 w0 [(1, k0_0), (2, k0_1)] [] := Sat.init w0 [(1, k0_0), (2, k0_1)] [] (by simp only [List.mem_cons, List.not_mem_nil, or_false]; rintro x (rfl | rfl) <;> assumption) (by simp) List.nodup_nil (by simp [blks])
  unfold laws_heldStore.f at H
  refine enter Try.func40 rfl Try.ntmps40 rfl fun a hk => ?_
  apply wp_seq_k; intro K1 hK1
  apply wp_region_lit
  refine sbx 3 hs rfl hk rfl rfl rfl rfl fun b2 w a hk hs => ?_
  refine sa _ rfl hk rfl rfl rfl fun a hk => ?_
  show wpList _ _ _ [] _ _
  refine wpList_nil ?_
  refine hK1 _ _ ?_
  apply wp_seq_k; intro K3 hK3
  apply wp_region_lit
  refine sf ⟨b2, 8, none⟩ rfl hk rfl rfl rfl fd37_2 rfl fun a hk => ?_
  refine sln [.slice A0_0 x0.Device.Sure.length p0_0, .slice A0_1 x0.Device.Unsure.length p0_1] rfl hk rfl rfl rfl ag35 sz35 (box_part hs (k := 3) rfl rfl) fun a hk => ?_
  refine sm _ rfl hk rfl rfl rfl fun a hk => ?_
  obtain ⟨y4, h5, H⟩ := bind_some H
  refine sc rfl en34 hk rfl rfl rfl (laws_heldDevice_t _ x0.Device A0_0 p0_0 _ v0_0 (hs.hasD (k := 1) rfl) A0_1 p0_1 _ v0_1 (hs.hasD (k := 2) rfl) x1 _ h5) ?_
  rintro _ w ⟨rfl, hG⟩ a hk
  have hs := hs.call0 hG
  refine sa _ rfl hk rfl rfl rfl fun a hk => ?_
  show wpList _ _ _ [] _ _
  refine wpList_nil ?_
  refine hK3 _ _ ?_
  apply wp_seq_k; intro K6 hK6
  apply wp_seq_k; intro K7 hK7
  apply wp_region_lit
  refine sm _ rfl hk rfl rfl rfl fun a hk => ?_
  refine sv (.bool (decide (y4 < 0))) hk rfl rfl rfl fun a hk => ?_
  show wpList _ _ _ [] _ _
  refine wpList_nil ?_
  refine hK7 _ _ ?_
  rcases cond_some H with ⟨c8, H⟩ | ⟨c8, H⟩
  · have hk := hk.lit 10 c8 rfl
    refine cnd_true hk rfl rfl ?_
    apply wp_seq_k; intro K9 hK9
    apply wp_region_lit
    refine sa _ rfl hk rfl rfl rfl fun a hk => ?_
    show wpList _ _ _ [] _ _
    refine wpList_nil ?_
    refine hK9 _ _ ?_
    refine wp_ret ?_
    obtain rfl := Option.some.inj H
    exact fin hk _ [(.int .i64 (-1))] rfl ⟨rfl, trivial⟩ ⟨rfl, (hs.pick [] rfl).dnil⟩
  · have hk := hk.lit 10 c8 rfl
    refine cnd_false hk rfl rfl ?_
    refine wp_skip ?_
    refine hK6 _ _ ?_
    apply wp_seq_k; intro K10 hK10
    apply wp_region_lit
    refine sm _ rfl hk rfl rfl rfl fun a hk => ?_
    refine sa _ rfl hk rfl rfl rfl fun a hk => ?_
    show wpList _ _ _ [] _ _
    refine wpList_nil ?_
    refine hK10 _ _ ?_
    refine wp_ret ?_
    obtain rfl := Option.some.inj H
    exact fin hk _ [(.int .i64 y4)] rfl ⟨rfl, trivial⟩ ⟨rfl, (hs.pick [] rfl).dnil⟩

noncomputable def spec_l05Own.f (x0 : S_Device) : Option (S_Device) :=
  (if ([] : List ByteArray).length + x0.Sure.length ≤ 1073741824 then (if ([] : List S_Io).length + x0.Unsure.length ≤ 1073741824 then (some (⟨(([] : List ByteArray) ++ x0.Sure), (([] : List S_Io) ++ x0.Unsure)⟩ : S_Device)) else none) else none)
set_option maxRecDepth 100000 in
set_option maxHeartbeats 0 in
theorem spec_l05Own_t (w0 : World) (x0 : S_Device) (A0_0 : Option Addr) (p0_0 : Nat) (k0_0 : Chunk) (v0_0 : View Lay.str A0_0 p0_0 x0.Sure k0_0) (w0_0 : Has w0 k0_0) (A0_1 : Option Addr) (p0_1 : Nat) (k0_1 : Chunk) (v0_1 : View L_Io A0_1 p0_1 x0.Unsure k0_1) (w0_1 : Has w0 k0_1) (r : S_Device) (H : spec_l05Own.f x0 = some r) :
    Calls Try.prog 75 #[.agg #[.slice A0_0 x0.Sure.length p0_0, .slice A0_1 x0.Unsure.length p0_1]] w0 (Ret (fun v w => ∃ (A0 : Option Addr) (p0 : Nat) (k0 : Chunk), ∃ (A1 : Option Addr) (p1 : Nat) (k1 : Chunk), v = .agg #[.slice A0 r.Sure.length p0, .slice A1 r.Unsure.length p1] ∧ Own Lay.str 9 A0 p0 r.Sure k0 ∧ Own L_Io 114 A1 p1 r.Unsure k1 ∧ Sat [] w0 w [] [(0, k0), (1, k1)])) := by
  have hs : Sat [] w0 w0 [(1, k0_0), (2, k0_1)] [] := Sat.init w0 [(1, k0_0), (2, k0_1)] [] (by simp only [List.mem_cons, List.not_mem_nil, or_false]; rintro x (rfl | rfl) <;> assumption) (by simp) List.nodup_nil (by simp [blks])
  unfold spec_l05Own.f at H
  refine enter Try.func75 rfl Try.ntmps75 rfl fun a hk => ?_
  apply wp_seq_k; intro K1 hK1
  apply wp_region_lit
  refine sbx 3 hs rfl hk rfl rfl rfl rfl fun b2 w a hk hs => ?_
  refine salx 4 hs rfl hk rfl rfl ze35 rfl fun b3 w a hk hs => ?_
  show wpList _ _ _ [] _ _
  refine wpList_nil ?_
  refine hK1 _ _ ?_
  apply wp_seq_k; intro K4 hK4
  rcases ite_some H with ⟨c_r5_3_1, H⟩ | ⟨_, H⟩
  rotate_left
  · cases H
  rcases ite_some H with ⟨c_r5_7_1, H⟩ | ⟨_, H⟩
  rotate_left
  · cases H
  obtain ⟨R6, hR6⟩ : ∃ R : Act → World → Prop, R = fun a w => ∃ (A_r5_3_2 : Option Addr) (p_r5_3_3 : Nat) (A_r5_7_2 : Option Addr) (p_r5_7_3 : Nat) (k_r5_3_4 : Chunk) (k_r5_7_4 : Chunk), Kn [(2, (.pointer (some ⟨b3, 0, none⟩)))] 12 a ∧ Sat [] w0 w [(1, k0_0), (2, k0_1)] [(4, [(b3, .cells #[.slice A_r5_3_2 (([] : List ByteArray) ++ x0.Sure).length p_r5_3_3, .slice A_r5_7_2 (([] : List S_Io) ++ x0.Unsure).length p_r5_7_3] 35 (0, 0))]), (105001, k_r5_3_4), (105081, k_r5_7_4)] ∧ Own Lay.str 9 A_r5_3_2 p_r5_3_3 (([] : List ByteArray) ++ x0.Sure) k_r5_3_4 ∧ Own L_Io 114 A_r5_7_2 p_r5_7_3 (([] : List S_Io) ++ x0.Unsure) k_r5_7_4 := ⟨_, rfl⟩
  refine wp_cutq R6 ?_ ?_
  · skip
    refine wp_region_tree (.q 1 (.q 2 (.q 5 (.q 6 (.alt 0 (.alt 3 (.alt 4 (.alt 7 (.alt 8 (.last 9) .stop) .stop) .stop) (.alt 4 (.alt 3 (.alt 7 (.alt 8 (.last 9) .stop) .stop) .stop) .stop)) (.alt 4 (.alt 0 (.alt 3 (.alt 7 (.alt 8 (.last 9) .stop) .stop) .stop) .stop) .stop)))))) mo (by kernel_rfl) (hs.pick [(4, 4), (3, 3)] rfl) fun _ => ?_
    have hs := hs.drew
    refine tqst (.pointer (some ⟨b2, 0, none⟩)) hk rfl rfl rfl rfl (fun w hs => sf ⟨b2, 0, none⟩ rfl hk rfl rfl rfl fd35_0 rfl fun a hk => qe hk) fun a hk => ?_
    refine tqst (.slice A0_0 x0.Sure.length p0_0) hk rfl rfl rfl rfl (fun w hs => sl rfl hk rfl rfl rfl ag24 (box_cell hs (k := 3) rfl rfl) fun a hk => qe hk) fun a hk => ?_
    refine tqst (.pointer (some ⟨b2, 1, none⟩)) hk rfl rfl rfl rfl (fun w hs => sf ⟨b2, 1, none⟩ rfl hk rfl rfl rfl fd35_1 rfl fun a hk => qe hk) fun a hk => ?_
    refine tqst (.slice A0_1 x0.Unsure.length p0_1) hk rfl rfl rfl rfl (fun w hs => sl rfl hk rfl rfl rfl ag33 (box_cell hs (k := 3) rfl rfl) fun a hk => qe hk) fun a hk => ?_
    refine tsst hk rfl rfl (fun K_r5_0 hK_r5_0 w hF => ?_) ?_
    · skip
      have hs := hs.f hF
      refine sbs0 105001 Lay.str hs rfl hk rfl rfl un24 sz9 fun b_r5_0_1 k_r5_0_2 w a hk o_r5_0_3 hs => ?_
      refine se (hs.pick [(4, 4), (3, 3)] rfl) hk (hK_r5_0 _ _ ?_)
      refine tsst hk rfl rfl (fun K_r5_3 hK_r5_3 w hF => ?_) ?_
      · skip
        have hs := hs.f hF
        refine sap 105001 (xs := ([] : List ByteArray)) (ys := x0.Sure) (flat_flat : (Lay.str).Flat) hs rfl o_r5_0_3 v0_0 (hs.hasD (k := 1) rfl) rfl hk rfl rfl rfl rfl rfl rfl un24 mk9 rfl rfl rfl c_r5_3_1 fun A_r5_3_2 p_r5_3_3 k_r5_3_4 w a hk o_r5_3_5 hs => ?_
        refine se (hs.pick [(4, 4), (3, 3)] rfl) hk (hK_r5_3 _ _ ?_)
        refine tsst hk rfl rfl (fun K_r5_4 hK_r5_4 w hF => ?_) wt_stop
        have hs := hs.f hF
        refine sbs0 105081 L_Io hs rfl hk rfl rfl un33 sz114 fun b_r5_4_1 k_r5_4_2 w a hk o_r5_4_3 hs => ?_
        refine se (hs.pick [(4, 4), (3, 3)] rfl) hk (hK_r5_4 _ _ ?_)
        refine tsst hk rfl rfl (fun K_r5_7 hK_r5_7 w hF => ?_) wt_stop
        have hs := hs.f hF
        refine sap 105081 (xs := ([] : List S_Io)) (ys := x0.Unsure) (flat_flat : (L_Io).Flat) hs rfl o_r5_4_3 v0_1 (hs.hasD (k := 2) rfl) rfl hk rfl rfl rfl rfl rfl rfl un33 mk114 rfl rfl rfl c_r5_7_1 fun A_r5_7_2 p_r5_7_3 k_r5_7_4 w a hk o_r5_7_5 hs => ?_
        refine se (hs.pick [(4, 4), (3, 3)] rfl) hk (hK_r5_7 _ _ ?_)
        refine tsst hk rfl rfl (fun K_r5_8 hK_r5_8 w hF => ?_) wt_stop
        have hs := hs.f hF
        refine sbd (pv := [(0, (.slice A_r5_3_2 (([] : List ByteArray) ++ x0.Sure).length p_r5_3_3)), (1, (.slice A_r5_7_2 (([] : List S_Io) ++ x0.Unsure).length p_r5_7_3))]) rfl hk rfl rfl rfl (bd35_1 A_r5_3_2 ((([] : List ByteArray) ++ x0.Sure).length) p_r5_3_3 A_r5_7_2 ((([] : List S_Io) ++ x0.Unsure).length) p_r5_7_3) fun a hk => ?_
        refine se (hs.pick [(4, 4), (3, 3)] rfl) hk (hK_r5_8 _ _ ?_)
        refine tlst hk rfl rfl fun K_r5_9 hK_r5_9 w hF => ?_
        have hs := hs.f hF
        refine ssw 4 hs rfl rfl hk rfl rfl rfl rfl sz35 (by simp [Value.oneCell']) rfl fun w a hk hs => ?_
        refine se trivial hk (hK_r5_9 _ _ fun w hF => ?_)
        have hs := hs.f hF
        show R6 _ _
        rw [hR6]
        exact ⟨A_r5_3_2, p_r5_3_3, A_r5_7_2, p_r5_7_3, k_r5_3_4, k_r5_7_4, (hk.c 2 rfl hk.k), (hs.pick [(4, 4), (105001, 105001), (105081, 105081)] rfl), o_r5_3_5, o_r5_7_5⟩
      refine tsst hk rfl rfl (fun K_r5_4 hK_r5_4 w hF => ?_) wt_stop
      have hs := hs.f hF
      refine sbs0 105081 L_Io hs rfl hk rfl rfl un33 sz114 fun b_r5_4_1 k_r5_4_2 w a hk o_r5_4_3 hs => ?_
      refine se (hs.pick [(4, 4), (3, 3)] rfl) hk (hK_r5_4 _ _ ?_)
      refine tsst hk rfl rfl (fun K_r5_3 hK_r5_3 w hF => ?_) wt_stop
      have hs := hs.f hF
      refine sap 105001 (xs := ([] : List ByteArray)) (ys := x0.Sure) (flat_flat : (Lay.str).Flat) hs rfl o_r5_0_3 v0_0 (hs.hasD (k := 1) rfl) rfl hk rfl rfl rfl rfl rfl rfl un24 mk9 rfl rfl rfl c_r5_3_1 fun A_r5_3_2 p_r5_3_3 k_r5_3_4 w a hk o_r5_3_5 hs => ?_
      refine se (hs.pick [(4, 4), (3, 3)] rfl) hk (hK_r5_3 _ _ ?_)
      refine tsst hk rfl rfl (fun K_r5_7 hK_r5_7 w hF => ?_) wt_stop
      have hs := hs.f hF
      refine sap 105081 (xs := ([] : List S_Io)) (ys := x0.Unsure) (flat_flat : (L_Io).Flat) hs rfl o_r5_4_3 v0_1 (hs.hasD (k := 2) rfl) rfl hk rfl rfl rfl rfl rfl rfl un33 mk114 rfl rfl rfl c_r5_7_1 fun A_r5_7_2 p_r5_7_3 k_r5_7_4 w a hk o_r5_7_5 hs => ?_
      refine se (hs.pick [(4, 4), (3, 3)] rfl) hk (hK_r5_7 _ _ ?_)
      refine tsst hk rfl rfl (fun K_r5_8 hK_r5_8 w hF => ?_) wt_stop
      have hs := hs.f hF
      refine sbd (pv := [(0, (.slice A_r5_3_2 (([] : List ByteArray) ++ x0.Sure).length p_r5_3_3)), (1, (.slice A_r5_7_2 (([] : List S_Io) ++ x0.Unsure).length p_r5_7_3))]) rfl hk rfl rfl rfl (bd35_1 A_r5_3_2 ((([] : List ByteArray) ++ x0.Sure).length) p_r5_3_3 A_r5_7_2 ((([] : List S_Io) ++ x0.Unsure).length) p_r5_7_3) fun a hk => ?_
      refine se (hs.pick [(4, 4), (3, 3)] rfl) hk (hK_r5_8 _ _ ?_)
      refine tlst hk rfl rfl fun K_r5_9 hK_r5_9 w hF => ?_
      have hs := hs.f hF
      refine ssw 4 hs rfl rfl hk rfl rfl rfl rfl sz35 (by simp [Value.oneCell']) rfl fun w a hk hs => ?_
      refine se trivial hk (hK_r5_9 _ _ fun w hF => ?_)
      have hs := hs.f hF
      show R6 _ _
      rw [hR6]
      exact ⟨A_r5_3_2, p_r5_3_3, A_r5_7_2, p_r5_7_3, k_r5_3_4, k_r5_7_4, (hk.c 2 rfl hk.k), (hs.pick [(4, 4), (105001, 105001), (105081, 105081)] rfl), o_r5_3_5, o_r5_7_5⟩
    refine tsst hk rfl rfl (fun K_r5_4 hK_r5_4 w hF => ?_) wt_stop
    have hs := hs.f hF
    refine sbs0 105081 L_Io hs rfl hk rfl rfl un33 sz114 fun b_r5_4_1 k_r5_4_2 w a hk o_r5_4_3 hs => ?_
    refine se (hs.pick [(4, 4), (3, 3)] rfl) hk (hK_r5_4 _ _ ?_)
    refine tsst hk rfl rfl (fun K_r5_0 hK_r5_0 w hF => ?_) wt_stop
    have hs := hs.f hF
    refine sbs0 105001 Lay.str hs rfl hk rfl rfl un24 sz9 fun b_r5_0_1 k_r5_0_2 w a hk o_r5_0_3 hs => ?_
    refine se (hs.pick [(4, 4), (3, 3)] rfl) hk (hK_r5_0 _ _ ?_)
    refine tsst hk rfl rfl (fun K_r5_3 hK_r5_3 w hF => ?_) wt_stop
    have hs := hs.f hF
    refine sap 105001 (xs := ([] : List ByteArray)) (ys := x0.Sure) (flat_flat : (Lay.str).Flat) hs rfl o_r5_0_3 v0_0 (hs.hasD (k := 1) rfl) rfl hk rfl rfl rfl rfl rfl rfl un24 mk9 rfl rfl rfl c_r5_3_1 fun A_r5_3_2 p_r5_3_3 k_r5_3_4 w a hk o_r5_3_5 hs => ?_
    refine se (hs.pick [(4, 4), (3, 3)] rfl) hk (hK_r5_3 _ _ ?_)
    refine tsst hk rfl rfl (fun K_r5_7 hK_r5_7 w hF => ?_) wt_stop
    have hs := hs.f hF
    refine sap 105081 (xs := ([] : List S_Io)) (ys := x0.Unsure) (flat_flat : (L_Io).Flat) hs rfl o_r5_4_3 v0_1 (hs.hasD (k := 2) rfl) rfl hk rfl rfl rfl rfl rfl rfl un33 mk114 rfl rfl rfl c_r5_7_1 fun A_r5_7_2 p_r5_7_3 k_r5_7_4 w a hk o_r5_7_5 hs => ?_
    refine se (hs.pick [(4, 4), (3, 3)] rfl) hk (hK_r5_7 _ _ ?_)
    refine tsst hk rfl rfl (fun K_r5_8 hK_r5_8 w hF => ?_) wt_stop
    have hs := hs.f hF
    refine sbd (pv := [(0, (.slice A_r5_3_2 (([] : List ByteArray) ++ x0.Sure).length p_r5_3_3)), (1, (.slice A_r5_7_2 (([] : List S_Io) ++ x0.Unsure).length p_r5_7_3))]) rfl hk rfl rfl rfl (bd35_1 A_r5_3_2 ((([] : List ByteArray) ++ x0.Sure).length) p_r5_3_3 A_r5_7_2 ((([] : List S_Io) ++ x0.Unsure).length) p_r5_7_3) fun a hk => ?_
    refine se (hs.pick [(4, 4), (3, 3)] rfl) hk (hK_r5_8 _ _ ?_)
    refine tlst hk rfl rfl fun K_r5_9 hK_r5_9 w hF => ?_
    have hs := hs.f hF
    refine ssw 4 hs rfl rfl hk rfl rfl rfl rfl sz35 (by simp [Value.oneCell']) rfl fun w a hk hs => ?_
    refine se trivial hk (hK_r5_9 _ _ fun w hF => ?_)
    have hs := hs.f hF
    show R6 _ _
    rw [hR6]
    exact ⟨A_r5_3_2, p_r5_3_3, A_r5_7_2, p_r5_7_3, k_r5_3_4, k_r5_7_4, (hk.c 2 rfl hk.k), (hs.pick [(4, 4), (105001, 105001), (105081, 105081)] rfl), o_r5_3_5, o_r5_7_5⟩
  · intro a w hR0
    rw [hR6] at hR0
    obtain ⟨A_r5_3_2, p_r5_3_3, A_r5_7_2, p_r5_7_3, k_r5_3_4, k_r5_7_4, hk, hs, o_r5_3_5, o_r5_7_5⟩ := hR0
    refine hK4 _ _ ?_
    refine wp_ret ?_
    obtain rfl := Option.some.inj H
    exact fin hk _ [(.agg #[.slice A_r5_3_2 (([] : List ByteArray) ++ x0.Sure).length p_r5_3_3, .slice A_r5_7_2 (([] : List S_Io) ++ x0.Unsure).length p_r5_7_3])] rfl ⟨⟨_, rfl, run_loadN ag35 sz35 (box_cells hs (k := 4) rfl)⟩, trivial⟩ ⟨A_r5_3_2, p_r5_3_3, _, A_r5_7_2, p_r5_7_3, _, rfl, o_r5_3_5, o_r5_7_5, (hs.pick [(0, 105001), (1, 105081)] rfl).dnil⟩

noncomputable def spec_l13Own.f (x0 : S_Store) : Option (S_Store) :=
  ((spec_l05Own.f x0.Device).bind fun y5 => (some (⟨x0.Key, x0.Reg, y5, x0.Up, x0.Dead⟩ : S_Store)))
set_option maxRecDepth 100000 in
set_option maxHeartbeats 0 in
theorem spec_l13Own_t (w0 : World) (x0 : S_Store) (A0_0 : Option Addr) (p0_0 : Nat) (k0_0 : Chunk) (v0_0 : View Lay.str A0_0 p0_0 x0.Device.Sure k0_0) (w0_0 : Has w0 k0_0) (A0_1 : Option Addr) (p0_1 : Nat) (k0_1 : Chunk) (v0_1 : View L_Io A0_1 p0_1 x0.Device.Unsure k0_1) (w0_1 : Has w0 k0_1) (r : S_Store) (H : spec_l13Own.f x0 = some r) :
    Calls Try.prog 92 #[.agg #[.string x0.Key, .int .i64 x0.Reg.Epoch, .int .i64 x0.Reg.Side, .int .i64 x0.Reg.Count, .int .i64 x0.Reg.Boot, .string x0.Reg.Base, .string x0.Reg.Tip, .string x0.Reg.Root, .slice A0_0 x0.Device.Sure.length p0_0, .slice A0_1 x0.Device.Unsure.length p0_1, .bool x0.Up, .bool x0.Dead]] w0 (Ret (fun v w => ∃ (A0 : Option Addr) (p0 : Nat) (k0 : Chunk), ∃ (A1 : Option Addr) (p1 : Nat) (k1 : Chunk), v = .agg #[.string r.Key, .int .i64 r.Reg.Epoch, .int .i64 r.Reg.Side, .int .i64 r.Reg.Count, .int .i64 r.Reg.Boot, .string r.Reg.Base, .string r.Reg.Tip, .string r.Reg.Root, .slice A0 r.Device.Sure.length p0, .slice A1 r.Device.Unsure.length p1, .bool r.Up, .bool r.Dead] ∧ Own Lay.str 9 A0 p0 r.Device.Sure k0 ∧ Own L_Io 114 A1 p1 r.Device.Unsure k1 ∧ Sat [] w0 w [] [(0, k0), (1, k1)])) := by
  have hs : Sat [] w0 w0 [(1, k0_0), (2, k0_1)] [] := Sat.init w0 [(1, k0_0), (2, k0_1)] [] (by simp only [List.mem_cons, List.not_mem_nil, or_false]; rintro x (rfl | rfl) <;> assumption) (by simp) List.nodup_nil (by simp [blks])
  unfold spec_l13Own.f at H
  refine enter Try.func92 rfl Try.ntmps92 rfl fun a hk => ?_
  apply wp_seq_k; intro K1 hK1
  apply wp_region_lit
  refine sbx 3 hs rfl hk rfl rfl rfl rfl fun b2 w a hk hs => ?_
  refine salx 4 hs rfl hk rfl rfl ze37 rfl fun b3 w a hk hs => ?_
  show wpList _ _ _ [] _ _
  refine wpList_nil ?_
  refine hK1 _ _ ?_
  apply wp_seq_k; intro K4 hK4
  apply wp_region_lit
  refine sf ⟨b2, 8, none⟩ rfl hk rfl rfl rfl fd37_2 rfl fun a hk => ?_
  refine sln [.slice A0_0 x0.Device.Sure.length p0_0, .slice A0_1 x0.Device.Unsure.length p0_1] rfl hk rfl rfl rfl ag35 sz35 (box_part hs (k := 3) rfl rfl) fun a hk => ?_
  obtain ⟨y5, h6, H⟩ := bind_some H
  refine sc rfl en75 hk rfl rfl rfl (spec_l05Own_t _ x0.Device A0_0 p0_0 _ v0_0 (hs.hasD (k := 1) rfl) A0_1 p0_1 _ v0_1 (hs.hasD (k := 2) rfl) _ h6) ?_
  rintro _ w ⟨A7, p8, k9, A11, p12, k13, rfl, o10, o14, hG⟩ a hk
  have hs := hs.call0k hG [5, 6] rfl
  refine sf ⟨b2, 8, none⟩ rfl hk rfl rfl rfl fd37_2 rfl fun a hk => ?_
  refine ssp (cs' := #[.string x0.Key, .int .i64 x0.Reg.Epoch, .int .i64 x0.Reg.Side, .int .i64 x0.Reg.Count, .int .i64 x0.Reg.Boot, .string x0.Reg.Base, .string x0.Reg.Tip, .string x0.Reg.Root, .slice A7 y5.Sure.length p8, .slice A11 y5.Unsure.length p12, .bool x0.Up, .bool x0.Dead]) 3 hs rfl rfl hk rfl rfl rfl rfl sz35 (by simp [Value.oneCell']) rfl rfl fun w a hk hs => ?_
  show wpList _ _ _ [] _ _
  refine wpList_nil ?_
  refine hK4 _ _ ?_
  apply wp_seq_k; intro K15 hK15
  apply wp_region_lit
  refine sln [.string x0.Key, .int .i64 x0.Reg.Epoch, .int .i64 x0.Reg.Side, .int .i64 x0.Reg.Count, .int .i64 x0.Reg.Boot, .string x0.Reg.Base, .string x0.Reg.Tip, .string x0.Reg.Root, .slice A7 y5.Sure.length p8, .slice A11 y5.Unsure.length p12, .bool x0.Up, .bool x0.Dead] rfl hk rfl rfl rfl ag37 sz37 (box_cells hs (k := 3) rfl) fun a hk => ?_
  refine ssw 4 hs rfl rfl hk rfl rfl rfl rfl sz37 (by simp [Value.oneCell']) rfl fun w a hk hs => ?_
  show wpList _ _ _ [] _ _
  refine wpList_nil ?_
  refine hK15 _ _ ?_
  refine wp_ret ?_
  obtain rfl := Option.some.inj H
  exact fin hk _ [(.agg #[.string x0.Key, .int .i64 x0.Reg.Epoch, .int .i64 x0.Reg.Side, .int .i64 x0.Reg.Count, .int .i64 x0.Reg.Boot, .string x0.Reg.Base, .string x0.Reg.Tip, .string x0.Reg.Root, .slice A7 y5.Sure.length p8, .slice A11 y5.Unsure.length p12, .bool x0.Up, .bool x0.Dead])] rfl ⟨⟨_, rfl, run_loadN ag37 sz37 (box_cells hs (k := 4) rfl)⟩, trivial⟩ ⟨A7, p8, _, A11, p12, _, rfl, o10, o14, (hs.pick [(0, 5), (1, 6)] rfl).dnil⟩

noncomputable def spec_WithDevice.f (x0 : S_Store) (x1 : S_Device) : Option (S_Store × Int) :=
  ((((spec_StoreOK.f x0).bind fun y13 => (bif (!y13) then (some true) else ((spec_DeviceOK.f x1).bind fun y16 => (bif (!y16) then (some true) else (some (decide ((x1.Unsure.length : Int) > 0))))))) : Option (Bool)).bind fun u8 => (bif u8 then (some ((⟨ByteArray.empty, (⟨0, 0, 0, 0, ByteArray.empty, ByteArray.empty, ByteArray.empty⟩ : S_Register), (⟨([] : List ByteArray), ([] : List S_Io)⟩ : S_Device), false, false⟩ : S_Store), 1)) else ((spec_l13Own.f (⟨x0.Key, x0.Reg, x1, x0.Up, x0.Dead⟩ : S_Store)).bind fun y23 => (some (y23, 0)))))
set_option maxRecDepth 100000 in
set_option maxHeartbeats 0 in
theorem spec_WithDevice_t (w0 : World) (x0 : S_Store) (A0_0 : Option Addr) (p0_0 : Nat) (k0_0 : Chunk) (v0_0 : View Lay.str A0_0 p0_0 x0.Device.Sure k0_0) (w0_0 : Has w0 k0_0) (A0_1 : Option Addr) (p0_1 : Nat) (k0_1 : Chunk) (v0_1 : View L_Io A0_1 p0_1 x0.Device.Unsure k0_1) (w0_1 : Has w0 k0_1) (x1 : S_Device) (A1_0 : Option Addr) (p1_0 : Nat) (k1_0 : Chunk) (v1_0 : View Lay.str A1_0 p1_0 x1.Sure k1_0) (w1_0 : Has w0 k1_0) (A1_1 : Option Addr) (p1_1 : Nat) (k1_1 : Chunk) (v1_1 : View L_Io A1_1 p1_1 x1.Unsure k1_1) (w1_1 : Has w0 k1_1) (r : S_Store × Int) (H : spec_WithDevice.f x0 x1 = some r) :
    Calls Try.prog 41 #[.agg #[.string x0.Key, .int .i64 x0.Reg.Epoch, .int .i64 x0.Reg.Side, .int .i64 x0.Reg.Count, .int .i64 x0.Reg.Boot, .string x0.Reg.Base, .string x0.Reg.Tip, .string x0.Reg.Root, .slice A0_0 x0.Device.Sure.length p0_0, .slice A0_1 x0.Device.Unsure.length p0_1, .bool x0.Up, .bool x0.Dead], .agg #[.slice A1_0 x1.Sure.length p1_0, .slice A1_1 x1.Unsure.length p1_1]] w0 (Ret (fun v w => ∃ (A0 : Option Addr) (p0 : Nat) (k0 : Chunk), ∃ (A1 : Option Addr) (p1 : Nat) (k1 : Chunk), v = .tuple #[.agg #[.string r.1.Key, .int .i64 r.1.Reg.Epoch, .int .i64 r.1.Reg.Side, .int .i64 r.1.Reg.Count, .int .i64 r.1.Reg.Boot, .string r.1.Reg.Base, .string r.1.Reg.Tip, .string r.1.Reg.Root, .slice A0 r.1.Device.Sure.length p0, .slice A1 r.1.Device.Unsure.length p1, .bool r.1.Up, .bool r.1.Dead], .int .i64 r.2] ∧ Own Lay.str 9 A0 p0 r.1.Device.Sure k0 ∧ Own L_Io 114 A1 p1 r.1.Device.Unsure k1 ∧ Sat [] w0 w [] [(0, k0), (1, k1)])) := by
  have hs : Sat [] w0 w0 [(1, k0_0), (2, k0_1), (3, k1_0), (4, k1_1)] [] := Sat.init w0 [(1, k0_0), (2, k0_1), (3, k1_0), (4, k1_1)] [] (by simp only [List.mem_cons, List.not_mem_nil, or_false]; rintro x (rfl | rfl | rfl | rfl) <;> assumption) (by simp) List.nodup_nil (by simp [blks])
  unfold spec_WithDevice.f at H
  refine enter Try.func41 rfl Try.ntmps41 rfl fun a hk => ?_
  apply wp_seq_k; intro K1 hK1
  apply wp_region_lit
  refine sbx 5 hs rfl hk rfl rfl rfl rfl fun b2 w a hk hs => ?_
  refine sbx 6 hs rfl hk rfl rfl rfl rfl fun b3 w a hk hs => ?_
  refine salx 7 hs rfl hk rfl rfl ze37 rfl fun b4 w a hk hs => ?_
  refine sa _ rfl hk rfl rfl rfl fun a hk => ?_
  show wpList _ _ _ [] _ _
  refine wpList_nil ?_
  refine hK1 _ _ ?_
  apply wp_seq_k; intro K5 hK5
  apply wp_seq_k; intro K6 hK6
  obtain ⟨o9, h10, HL11⟩ := bind_some H
  clear H
  obtain ⟨R12, hR12⟩ : ∃ R : Act → World → Prop, R = fun a w => ∃ (u8 : Bool), u8 = o9 ∧ Kn [(2, (.pointer (some ⟨b2, 0, none⟩))), (3, (.pointer (some ⟨b3, 0, none⟩))), (4, (.pointer (some ⟨b4, 0, none⟩))), (19, (.bool u8))] 25 a ∧ Sat [] w0 w [(1, k0_0), (2, k0_1), (3, k1_0), (4, k1_1)] [(5, [(b2, .cells #[.string x0.Key, .int .i64 x0.Reg.Epoch, .int .i64 x0.Reg.Side, .int .i64 x0.Reg.Count, .int .i64 x0.Reg.Boot, .string x0.Reg.Base, .string x0.Reg.Tip, .string x0.Reg.Root, .slice A0_0 x0.Device.Sure.length p0_0, .slice A0_1 x0.Device.Unsure.length p0_1, .bool x0.Up, .bool x0.Dead] 37 (0, 0))]), (6, [(b3, .cells #[.slice A1_0 x1.Sure.length p1_0, .slice A1_1 x1.Unsure.length p1_1] 35 (0, 0))]), (7, [(b4, .cells #[.string ByteArray.empty, .int .i64 0, .int .i64 0, .int .i64 0, .int .i64 0, .string ByteArray.empty, .string ByteArray.empty, .string ByteArray.empty, .slice none 0 0, .slice none 0 0, .bool false, .bool false] 37 (0, 0))])] := ⟨_, rfl⟩
  refine wp_cutq R12 ?_ ?_
  · have H := h10
    apply wp_region_lit
    refine sln [.string x0.Key, .int .i64 x0.Reg.Epoch, .int .i64 x0.Reg.Side, .int .i64 x0.Reg.Count, .int .i64 x0.Reg.Boot, .string x0.Reg.Base, .string x0.Reg.Tip, .string x0.Reg.Root, .slice A0_0 x0.Device.Sure.length p0_0, .slice A0_1 x0.Device.Unsure.length p0_1, .bool x0.Up, .bool x0.Dead] rfl hk rfl rfl rfl ag37 sz37 (box_cells hs (k := 5) rfl) fun a hk => ?_
    obtain ⟨y13, h14, H⟩ := bind_some H
    refine sc rfl en16 hk rfl rfl rfl (spec_StoreOK_t _ x0 A0_0 p0_0 _ v0_0 (hs.hasD (k := 1) rfl) A0_1 p0_1 _ v0_1 (hs.hasD (k := 2) rfl) _ h14) ?_
    rintro _ w ⟨rfl, hG⟩ a hk
    have hs := hs.call0 hG
    refine sv (.bool (!y13)) hk rfl rfl rfl fun a hk => ?_
    refine sm _ rfl hk rfl rfl rfl fun a hk => ?_
    rcases cond_some H with ⟨c15, H⟩ | ⟨c15, H⟩
    · have hk := hk.lit 9 c15 rfl
      refine sk hk rfl rfl rfl fun a hk => ?_
      refine sk hk rfl rfl rfl fun a hk => ?_
      refine sk hk rfl rfl rfl fun a hk => ?_
      refine sv (.bool true) hk rfl rfl rfl fun a hk => ?_
      refine sm _ rfl hk rfl rfl rfl fun a hk => ?_
      refine sk hk rfl rfl rfl fun a hk => ?_
      refine sk hk rfl rfl rfl fun a hk => ?_
      refine sk hk rfl rfl rfl fun a hk => ?_
      refine sk hk rfl rfl rfl fun a hk => ?_
      refine sv (.bool true) hk rfl rfl rfl fun a hk => ?_
      show wpList _ _ _ [] _ _
      refine wpList_nil ?_
      obtain rfl := Option.some.inj H
      show R12 _ _
      rw [hR12]
      exact ⟨true, rfl, (hk.c 2 rfl (hk.c 3 rfl (hk.c 4 rfl (hk.c 19 rfl hk.k)))), (hs.pick [(5, 5), (6, 6), (7, 7)] rfl)⟩
    · have hk := hk.lit 9 c15 rfl
      refine sln [.slice A1_0 x1.Sure.length p1_0, .slice A1_1 x1.Unsure.length p1_1] rfl hk rfl rfl rfl ag35 sz35 (box_cells hs (k := 6) rfl) fun a hk => ?_
      obtain ⟨y16, h17, H⟩ := bind_some H
      refine sc rfl en49 hk rfl rfl rfl (spec_DeviceOK_t _ x1 A1_0 p1_0 _ v1_0 (hs.hasD (k := 3) rfl) A1_1 p1_1 _ v1_1 (hs.hasD (k := 4) rfl) _ h17) ?_
      rintro _ w ⟨rfl, hG⟩ a hk
      have hs := hs.call0 hG
      refine sv (.bool (!y16)) hk rfl rfl rfl fun a hk => ?_
      refine sv (.bool (!y16)) hk rfl rfl rfl fun a hk => ?_
      refine sm _ rfl hk rfl rfl rfl fun a hk => ?_
      rcases cond_some H with ⟨c18, H⟩ | ⟨c18, H⟩
      · have hk := hk.lit 14 c18 rfl
        refine sk hk rfl rfl rfl fun a hk => ?_
        refine sk hk rfl rfl rfl fun a hk => ?_
        refine sk hk rfl rfl rfl fun a hk => ?_
        refine sk hk rfl rfl rfl fun a hk => ?_
        refine sv (.bool true) hk rfl rfl rfl fun a hk => ?_
        show wpList _ _ _ [] _ _
        refine wpList_nil ?_
        obtain rfl := Option.some.inj H
        show R12 _ _
        rw [hR12]
        exact ⟨true, rfl, (hk.c 2 rfl (hk.c 3 rfl (hk.c 4 rfl (hk.c 19 rfl hk.k)))), (hs.pick [(5, 5), (6, 6), (7, 7)] rfl)⟩
      · have hk := hk.lit 14 c18 rfl
        refine sf ⟨b3, 1, none⟩ rfl hk rfl rfl rfl fd35_1 rfl fun a hk => ?_
        refine sl rfl hk rfl rfl rfl ag33 (box_cell hs (k := 6) rfl rfl) fun a hk => ?_
        refine sle rfl hk rfl rfl rfl un33 fun a hk => ?_
        refine sv (.bool (decide ((x1.Unsure.length : Int) > 0))) hk rfl rfl rfl fun a hk => ?_
        refine sv (.bool (decide ((x1.Unsure.length : Int) > 0))) hk rfl rfl rfl fun a hk => ?_
        show wpList _ _ _ [] _ _
        refine wpList_nil ?_
        obtain rfl := Option.some.inj H
        show R12 _ _
        rw [hR12]
        exact ⟨(decide ((x1.Unsure.length : Int) > 0)), rfl, (hk.c 2 rfl (hk.c 3 rfl (hk.c 4 rfl (hk.c 19 rfl hk.k)))), (hs.pick [(5, 5), (6, 6), (7, 7)] rfl)⟩
  · intro a w hR0
    rw [hR12] at hR0
    obtain ⟨u8, rfl, hk, hs⟩ := hR0
    have H := HL11
    try dsimp only at H
    refine hK6 _ _ ?_
    rcases cond_some H with ⟨c19, H⟩ | ⟨c19, H⟩
    · have hk := hk.lit 19 c19 rfl
      refine cnd_true hk rfl rfl ?_
      apply wp_seq_k; intro K20 hK20
      apply wp_region_lit
      refine sbd (pv := []) rfl hk rfl rfl rfl bd37_2 fun a hk => ?_
      refine ssw 7 hs rfl rfl hk rfl rfl rfl rfl sz37 (by simp [Value.oneCell']) rfl fun w a hk hs => ?_
      refine sa _ rfl hk rfl rfl rfl fun a hk => ?_
      show wpList _ _ _ [] _ _
      refine wpList_nil ?_
      refine hK20 _ _ ?_
      refine wp_ret ?_
      obtain rfl := Option.some.inj H
      have hs := hs.addNil 9
      have hs := hs.addNil 10
      exact fin hk _ [(.agg #[.string ByteArray.empty, .int .i64 0, .int .i64 0, .int .i64 0, .int .i64 0, .string ByteArray.empty, .string ByteArray.empty, .string ByteArray.empty, .slice none 0 0, .slice none 0 0, .bool false, .bool false]), (.int .i64 1)] rfl ⟨⟨_, rfl, run_loadN ag37 sz37 (box_cells hs (k := 7) rfl)⟩, ⟨rfl, trivial⟩⟩ ⟨none, 0, [], none, 0, [], rfl, Own.nil _ _, Own.nil _ _, (hs.pick [(0, 9), (1, 10)] rfl).dnil⟩
    · have hk := hk.lit 19 c19 rfl
      refine cnd_false hk rfl rfl ?_
      refine wp_skip ?_
      refine hK5 _ _ ?_
      apply wp_seq_k; intro K21 hK21
      apply wp_region_lit
      refine sln [.slice A1_0 x1.Sure.length p1_0, .slice A1_1 x1.Unsure.length p1_1] rfl hk rfl rfl rfl ag35 sz35 (box_cells hs (k := 6) rfl) fun a hk => ?_
      refine sf ⟨b2, 8, none⟩ rfl hk rfl rfl rfl fd37_2 rfl fun a hk => ?_
      refine ssp (cs' := #[.string x0.Key, .int .i64 x0.Reg.Epoch, .int .i64 x0.Reg.Side, .int .i64 x0.Reg.Count, .int .i64 x0.Reg.Boot, .string x0.Reg.Base, .string x0.Reg.Tip, .string x0.Reg.Root, .slice A1_0 x1.Sure.length p1_0, .slice A1_1 x1.Unsure.length p1_1, .bool x0.Up, .bool x0.Dead]) 5 hs rfl rfl hk rfl rfl rfl rfl sz35 (by simp [Value.oneCell']) rfl rfl fun w a hk hs => ?_
      show wpList _ _ _ [] _ _
      refine wpList_nil ?_
      refine hK21 _ _ ?_
      apply wp_seq_k; intro K22 hK22
      apply wp_region_lit
      refine sln [.string x0.Key, .int .i64 x0.Reg.Epoch, .int .i64 x0.Reg.Side, .int .i64 x0.Reg.Count, .int .i64 x0.Reg.Boot, .string x0.Reg.Base, .string x0.Reg.Tip, .string x0.Reg.Root, .slice A1_0 x1.Sure.length p1_0, .slice A1_1 x1.Unsure.length p1_1, .bool x0.Up, .bool x0.Dead] rfl hk rfl rfl rfl ag37 sz37 (box_cells hs (k := 5) rfl) fun a hk => ?_
      obtain ⟨y23, h24, H⟩ := bind_some H
      refine sc rfl en92 hk rfl rfl rfl (spec_l13Own_t _ (⟨x0.Key, x0.Reg, x1, x0.Up, x0.Dead⟩ : S_Store) A1_0 p1_0 _ v1_0 (hs.hasD (k := 3) rfl) A1_1 p1_1 _ v1_1 (hs.hasD (k := 4) rfl) _ h24) ?_
      rintro _ w ⟨A25, p26, k27, A29, p30, k31, rfl, o28, o32, hG⟩ a hk
      have hs := hs.call0k hG [11, 12] rfl
      refine ssw 7 hs rfl rfl hk rfl rfl rfl rfl sz37 (by simp [Value.oneCell']) rfl fun w a hk hs => ?_
      refine sa _ rfl hk rfl rfl rfl fun a hk => ?_
      show wpList _ _ _ [] _ _
      refine wpList_nil ?_
      refine hK22 _ _ ?_
      refine wp_ret ?_
      obtain rfl := Option.some.inj H
      exact fin hk _ [(.agg #[.string y23.Key, .int .i64 y23.Reg.Epoch, .int .i64 y23.Reg.Side, .int .i64 y23.Reg.Count, .int .i64 y23.Reg.Boot, .string y23.Reg.Base, .string y23.Reg.Tip, .string y23.Reg.Root, .slice A25 y23.Device.Sure.length p26, .slice A29 y23.Device.Unsure.length p30, .bool y23.Up, .bool y23.Dead]), (.int .i64 0)] rfl ⟨⟨_, rfl, run_loadN ag37 sz37 (box_cells hs (k := 7) rfl)⟩, ⟨rfl, trivial⟩⟩ ⟨A25, p26, _, A29, p30, _, rfl, o28, o32, (hs.pick [(0, 11), (1, 12)] rfl).dnil⟩

noncomputable def slices_Clone_string_string.f (l0 : List ByteArray) : Option (List ByteArray) :=
  (if l0.length ≤ 1073741824 then (some l0) else none)
set_option maxRecDepth 100000 in
set_option maxHeartbeats 0 in
theorem slices_Clone_string_string_t (w0 : World) (A0_ : Option Addr) (p0_ : Nat) (l0 : List ByteArray) (k0_ : Chunk) (v0_ : View Lay.str A0_ p0_ l0 k0_) (w0_ : Has w0 k0_) (r : List ByteArray) (H : slices_Clone_string_string.f l0 = some r) :
    Calls Try.prog 118 #[.slice A0_ l0.length p0_] w0 (Ret (fun v w => ∃ (A0 : Option Addr) (p0 : Nat) (k0 : Chunk), v = .slice A0 r.length p0 ∧ Own Lay.str 9 A0 p0 r k0 ∧ Sat [] w0 w [] [(0, k0)])) := by
  have hs : Sat [] w0 w0 [(1, k0_)] [] := Sat.init w0 [(1, k0_)] [] (by simp only [List.mem_cons, List.not_mem_nil, or_false]; rintro x (rfl) <;> assumption) (by simp) List.nodup_nil (by simp [blks])
  unfold slices_Clone_string_string.f at H
  rcases ite_some H with ⟨c, H⟩ | ⟨_, H⟩
  rotate_left
  · cases H
  obtain rfl := Option.some.inj H
  refine enter Try.func118 rfl Try.ntmps118 rfl fun a hk => ?_
  apply wp_seq_k; intro K1 hK1
  apply wp_region_lit
  refine sa _ rfl hk rfl rfl rfl fun a hk => ?_
  refine wpList_nil ?_
  refine hK1 _ _ ?_
  apply wp_seq_k; intro K3 hK3
  apply wp_seq_k; intro K2 hK2
  apply wp_region_lit
  refine sm _ rfl hk rfl rfl rfl fun a hk => ?_
  refine snl rfl hk rfl rfl rfl un24 fun a hk => ?_
  refine wpList_nil ?_
  refine hK2 _ _ ?_
  cases A0_ with
  | none =>
    obtain rfl := v0_.none_nil
    refine cnd_true hk rfl rfl ?_
    apply wp_seq_k; intro K4 hK4
    apply wp_region_lit
    refine sa _ rfl hk rfl rfl rfl fun a hk => ?_
    refine wpList_nil ?_
    refine hK4 _ _ ?_
    refine wp_ret ?_
    have hs := hs.addNil 9
    exact fin hk _ [(.slice none 0 0)] rfl ⟨rfl, trivial⟩ ⟨none, 0, [], rfl, Own.nil _ _, (hs.pick [(0, 9)] rfl).dnil⟩
  | some A0_ =>
    refine cnd_false hk rfl rfl ?_
    refine wp_skip ?_
    refine hK3 _ _ ?_
    apply wp_seq_k; intro K5 hK5
    apply wp_region_lit
    refine sbs0 2 Lay.str hs rfl hk rfl rfl un24 sz9 fun b k w a hk o hs => ?_
    refine sm _ rfl hk rfl rfl rfl fun a hk => ?_
    refine sap 2 (xs := ([] : List ByteArray)) (ys := l0) (flat_flat : (Lay.str).Flat) hs rfl o v0_ (hs.hasD (k := 1) rfl) rfl hk rfl rfl rfl rfl rfl rfl un24 mk9 rfl rfl rfl (by simpa using c) fun A p k w a hk o hs => ?_
    refine sa _ rfl hk rfl rfl rfl fun a hk => ?_
    refine wpList_nil ?_
    refine hK5 _ _ ?_
    refine wp_ret ?_
    exact fin hk _ [(.slice A ([] ++ l0).length p)] rfl ⟨rfl, trivial⟩ ⟨A, p, _, rfl, o, (hs.pick [(0, 2)] rfl).dnil⟩

noncomputable def slices_Clone_impl_Io_impl_Io.f (l0 : List S_Io) : Option (List S_Io) :=
  (if l0.length ≤ 1073741824 then (some l0) else none)
set_option maxRecDepth 100000 in
set_option maxHeartbeats 0 in
theorem slices_Clone_impl_Io_impl_Io_t (w0 : World) (A0_ : Option Addr) (p0_ : Nat) (l0 : List S_Io) (k0_ : Chunk) (v0_ : View L_Io A0_ p0_ l0 k0_) (w0_ : Has w0 k0_) (r : List S_Io) (H : slices_Clone_impl_Io_impl_Io.f l0 = some r) :
    Calls Try.prog 119 #[.slice A0_ l0.length p0_] w0 (Ret (fun v w => ∃ (A0 : Option Addr) (p0 : Nat) (k0 : Chunk), v = .slice A0 r.length p0 ∧ Own L_Io 114 A0 p0 r k0 ∧ Sat [] w0 w [] [(0, k0)])) := by
  have hs : Sat [] w0 w0 [(1, k0_)] [] := Sat.init w0 [(1, k0_)] [] (by simp only [List.mem_cons, List.not_mem_nil, or_false]; rintro x (rfl) <;> assumption) (by simp) List.nodup_nil (by simp [blks])
  unfold slices_Clone_impl_Io_impl_Io.f at H
  rcases ite_some H with ⟨c, H⟩ | ⟨_, H⟩
  rotate_left
  · cases H
  obtain rfl := Option.some.inj H
  refine enter Try.func119 rfl Try.ntmps119 rfl fun a hk => ?_
  apply wp_seq_k; intro K1 hK1
  apply wp_region_lit
  refine sa _ rfl hk rfl rfl rfl fun a hk => ?_
  refine wpList_nil ?_
  refine hK1 _ _ ?_
  apply wp_seq_k; intro K3 hK3
  apply wp_seq_k; intro K2 hK2
  apply wp_region_lit
  refine sm _ rfl hk rfl rfl rfl fun a hk => ?_
  refine snl rfl hk rfl rfl rfl un33 fun a hk => ?_
  refine wpList_nil ?_
  refine hK2 _ _ ?_
  cases A0_ with
  | none =>
    obtain rfl := v0_.none_nil
    refine cnd_true hk rfl rfl ?_
    apply wp_seq_k; intro K4 hK4
    apply wp_region_lit
    refine sa _ rfl hk rfl rfl rfl fun a hk => ?_
    refine wpList_nil ?_
    refine hK4 _ _ ?_
    refine wp_ret ?_
    have hs := hs.addNil 9
    exact fin hk _ [(.slice none 0 0)] rfl ⟨rfl, trivial⟩ ⟨none, 0, [], rfl, Own.nil _ _, (hs.pick [(0, 9)] rfl).dnil⟩
  | some A0_ =>
    refine cnd_false hk rfl rfl ?_
    refine wp_skip ?_
    refine hK3 _ _ ?_
    apply wp_seq_k; intro K5 hK5
    apply wp_region_lit
    refine sbs0 2 L_Io hs rfl hk rfl rfl un33 sz114 fun b k w a hk o hs => ?_
    refine sm _ rfl hk rfl rfl rfl fun a hk => ?_
    refine sap 2 (xs := ([] : List S_Io)) (ys := l0) (flat_flat : (L_Io).Flat) hs rfl o v0_ (hs.hasD (k := 1) rfl) rfl hk rfl rfl rfl rfl rfl rfl un33 mk114 rfl rfl rfl (by simpa using c) fun A p k w a hk o hs => ?_
    refine sa _ rfl hk rfl rfl rfl fun a hk => ?_
    refine wpList_nil ?_
    refine hK5 _ _ ?_
    refine wp_ret ?_
    exact fin hk _ [(.slice A ([] ++ l0).length p)] rfl ⟨rfl, trivial⟩ ⟨A, p, _, rfl, o, (hs.pick [(0, 2)] rfl).dnil⟩

noncomputable def impl_Device_own.f (x0 : S_Device) : Option (S_Device) :=
  ((slices_Clone_string_string.f x0.Sure).bind fun y6 => ((slices_Clone_impl_Io_impl_Io.f x0.Unsure).bind fun y12 => (some (⟨y6, y12⟩ : S_Device))))
set_option maxRecDepth 100000 in
set_option maxHeartbeats 0 in
theorem impl_Device_own_t (w0 : World) (x0 : S_Device) (A0_0 : Option Addr) (p0_0 : Nat) (k0_0 : Chunk) (v0_0 : View Lay.str A0_0 p0_0 x0.Sure k0_0) (w0_0 : Has w0 k0_0) (A0_1 : Option Addr) (p0_1 : Nat) (k0_1 : Chunk) (v0_1 : View L_Io A0_1 p0_1 x0.Unsure k0_1) (w0_1 : Has w0 k0_1) (r : S_Device) (H : impl_Device_own.f x0 = some r) :
    Calls Try.prog 80 #[.agg #[.slice A0_0 x0.Sure.length p0_0, .slice A0_1 x0.Unsure.length p0_1]] w0 (Ret (fun v w => ∃ (A0 : Option Addr) (p0 : Nat) (k0 : Chunk), ∃ (A1 : Option Addr) (p1 : Nat) (k1 : Chunk), v = .agg #[.slice A0 r.Sure.length p0, .slice A1 r.Unsure.length p1] ∧ Own Lay.str 9 A0 p0 r.Sure k0 ∧ Own L_Io 114 A1 p1 r.Unsure k1 ∧ Sat [] w0 w [] [(0, k0), (1, k1)])) := by
  have hs : Sat [] w0 w0 [(1, k0_0), (2, k0_1)] [] := Sat.init w0 [(1, k0_0), (2, k0_1)] [] (by simp only [List.mem_cons, List.not_mem_nil, or_false]; rintro x (rfl | rfl) <;> assumption) (by simp) List.nodup_nil (by simp [blks])
  unfold impl_Device_own.f at H
  refine enter Try.func80 rfl Try.ntmps80 rfl fun a hk => ?_
  apply wp_seq_k; intro K1 hK1
  apply wp_region_lit
  refine sbx 3 hs rfl hk rfl rfl rfl rfl fun b2 w a hk hs => ?_
  refine salx 4 hs rfl hk rfl rfl ze35 rfl fun b3 w a hk hs => ?_
  show wpList _ _ _ [] _ _
  refine wpList_nil ?_
  refine hK1 _ _ ?_
  apply wp_seq_k; intro K4 hK4
  refine wp_region_tree (.q 0 (.q 1 (.q 3 (.q 4 (.alt 2 (.alt 5 (.alt 6 (.last 7) .stop) .stop) .stop))))) mo (by kernel_rfl) (hs.pick [(4, 4), (3, 3)] rfl) fun _ => ?_
  have hs := hs.drew
  refine tqst (.pointer (some ⟨b2, 0, none⟩)) hk rfl rfl rfl rfl (fun w hs => sf ⟨b2, 0, none⟩ rfl hk rfl rfl rfl fd35_0 rfl fun a hk => qe hk) fun a hk => ?_
  refine tqst (.slice A0_0 x0.Sure.length p0_0) hk rfl rfl rfl rfl (fun w hs => sl rfl hk rfl rfl rfl ag24 (box_cell hs (k := 3) rfl rfl) fun a hk => qe hk) fun a hk => ?_
  refine tqst (.pointer (some ⟨b2, 1, none⟩)) hk rfl rfl rfl rfl (fun w hs => sf ⟨b2, 1, none⟩ rfl hk rfl rfl rfl fd35_1 rfl fun a hk => qe hk) fun a hk => ?_
  refine tqst (.slice A0_1 x0.Unsure.length p0_1) hk rfl rfl rfl rfl (fun w hs => sl rfl hk rfl rfl rfl ag33 (box_cell hs (k := 3) rfl rfl) fun a hk => qe hk) fun a hk => ?_
  refine tsst hk rfl rfl (fun K_r5_2 hK_r5_2 w hF => ?_) wt_stop
  have hs := hs.f hF
  obtain ⟨y6, h7, H⟩ := bind_some H
  refine sc rfl en118 hk rfl rfl rfl (slices_Clone_string_string_t _ A0_0 p0_0 x0.Sure _ v0_0 (hs.hasD (k := 1) rfl) _ h7) ?_
  rintro _ w ⟨A8, p9, k10, rfl, o11, hG⟩ a hk
  have hs := hs.call0k hG [6] rfl
  refine se (hs.pick [(4, 4), (3, 3)] rfl) hk (hK_r5_2 _ _ ?_)
  refine tsst hk rfl rfl (fun K_r5_5 hK_r5_5 w hF => ?_) wt_stop
  have hs := hs.f hF
  obtain ⟨y12, h13, H⟩ := bind_some H
  refine sc rfl en119 hk rfl rfl rfl (slices_Clone_impl_Io_impl_Io_t _ A0_1 p0_1 x0.Unsure _ v0_1 (hs.hasD (k := 2) rfl) _ h13) ?_
  rintro _ w ⟨A14, p15, k16, rfl, o17, hG⟩ a hk
  have hs := hs.call0k hG [7] rfl
  refine se (hs.pick [(4, 4), (3, 3)] rfl) hk (hK_r5_5 _ _ ?_)
  refine tsst hk rfl rfl (fun K_r5_6 hK_r5_6 w hF => ?_) wt_stop
  have hs := hs.f hF
  refine sbd (pv := [(0, (.slice A8 y6.length p9)), (1, (.slice A14 y12.length p15))]) rfl hk rfl rfl rfl (bd35_1 A8 y6.length p9 A14 y12.length p15) fun a hk => ?_
  refine se (hs.pick [(4, 4), (3, 3)] rfl) hk (hK_r5_6 _ _ ?_)
  refine tlst hk rfl rfl fun K_r5_7 hK_r5_7 w hF => ?_
  have hs := hs.f hF
  refine ssw 4 hs rfl rfl hk rfl rfl rfl rfl sz35 (by simp [Value.oneCell']) rfl fun w a hk hs => ?_
  refine se trivial hk (hK_r5_7 _ _ fun w hF => ?_)
  have hs := hs.f hF
  refine hK4 _ _ ?_
  refine wp_ret ?_
  obtain rfl := Option.some.inj H
  exact fin hk _ [(.agg #[.slice A8 y6.length p9, .slice A14 y12.length p15])] rfl ⟨⟨_, rfl, run_loadN ag35 sz35 (box_cells hs (k := 4) rfl)⟩, trivial⟩ ⟨A8, p9, _, A14, p15, _, rfl, o11, o17, (hs.pick [(0, 6), (1, 7)] rfl).dnil⟩

noncomputable def impl_WithDevice.f (x0 : S_Store) (x1 : S_Device) : Option (S_Store × Int) :=
  ((((impl_StoreOK.f x0).bind fun y13 => (bif (!y13) then (some true) else ((impl_isSure.f x1).bind fun y16 => (some (!y16))))) : Option (Bool)).bind fun u8 => (bif u8 then (some ((⟨ByteArray.empty, (⟨0, 0, 0, 0, ByteArray.empty, ByteArray.empty, ByteArray.empty⟩ : S_Register), (⟨([] : List ByteArray), ([] : List S_Io)⟩ : S_Device), false, false⟩ : S_Store), 1)) else ((impl_Device_own.f x1).bind fun y21 => (some ((⟨x0.Key, x0.Reg, y21, x0.Up, x0.Dead⟩ : S_Store), 0)))))
set_option maxRecDepth 100000 in
set_option maxHeartbeats 0 in
theorem impl_WithDevice_t (w0 : World) (x0 : S_Store) (A0_0 : Option Addr) (p0_0 : Nat) (k0_0 : Chunk) (v0_0 : View Lay.str A0_0 p0_0 x0.Device.Sure k0_0) (w0_0 : Has w0 k0_0) (A0_1 : Option Addr) (p0_1 : Nat) (k0_1 : Chunk) (v0_1 : View L_Io A0_1 p0_1 x0.Device.Unsure k0_1) (w0_1 : Has w0 k0_1) (x1 : S_Device) (A1_0 : Option Addr) (p1_0 : Nat) (k1_0 : Chunk) (v1_0 : View Lay.str A1_0 p1_0 x1.Sure k1_0) (w1_0 : Has w0 k1_0) (A1_1 : Option Addr) (p1_1 : Nat) (k1_1 : Chunk) (v1_1 : View L_Io A1_1 p1_1 x1.Unsure k1_1) (w1_1 : Has w0 k1_1) (r : S_Store × Int) (H : impl_WithDevice.f x0 x1 = some r) :
    Calls Try.prog 42 #[.agg #[.string x0.Key, .int .i64 x0.Reg.Epoch, .int .i64 x0.Reg.Side, .int .i64 x0.Reg.Count, .int .i64 x0.Reg.Boot, .string x0.Reg.Base, .string x0.Reg.Tip, .string x0.Reg.Root, .slice A0_0 x0.Device.Sure.length p0_0, .slice A0_1 x0.Device.Unsure.length p0_1, .bool x0.Up, .bool x0.Dead], .agg #[.slice A1_0 x1.Sure.length p1_0, .slice A1_1 x1.Unsure.length p1_1]] w0 (Ret (fun v w => ∃ (A0 : Option Addr) (p0 : Nat) (k0 : Chunk), ∃ (A1 : Option Addr) (p1 : Nat) (k1 : Chunk), v = .tuple #[.agg #[.string r.1.Key, .int .i64 r.1.Reg.Epoch, .int .i64 r.1.Reg.Side, .int .i64 r.1.Reg.Count, .int .i64 r.1.Reg.Boot, .string r.1.Reg.Base, .string r.1.Reg.Tip, .string r.1.Reg.Root, .slice A0 r.1.Device.Sure.length p0, .slice A1 r.1.Device.Unsure.length p1, .bool r.1.Up, .bool r.1.Dead], .int .i64 r.2] ∧ Own Lay.str 9 A0 p0 r.1.Device.Sure k0 ∧ Own L_Io 114 A1 p1 r.1.Device.Unsure k1 ∧ Sat [] w0 w [] [(0, k0), (1, k1)])) := by
  have hs : Sat [] w0 w0 [(1, k0_0), (2, k0_1), (3, k1_0), (4, k1_1)] [] := Sat.init w0 [(1, k0_0), (2, k0_1), (3, k1_0), (4, k1_1)] [] (by simp only [List.mem_cons, List.not_mem_nil, or_false]; rintro x (rfl | rfl | rfl | rfl) <;> assumption) (by simp) List.nodup_nil (by simp [blks])
  unfold impl_WithDevice.f at H
  refine enter Try.func42 rfl Try.ntmps42 rfl fun a hk => ?_
  apply wp_seq_k; intro K1 hK1
  apply wp_region_lit
  refine sbx 5 hs rfl hk rfl rfl rfl rfl fun b2 w a hk hs => ?_
  refine sbx 6 hs rfl hk rfl rfl rfl rfl fun b3 w a hk hs => ?_
  refine salx 7 hs rfl hk rfl rfl ze37 rfl fun b4 w a hk hs => ?_
  refine sa _ rfl hk rfl rfl rfl fun a hk => ?_
  show wpList _ _ _ [] _ _
  refine wpList_nil ?_
  refine hK1 _ _ ?_
  apply wp_seq_k; intro K5 hK5
  apply wp_seq_k; intro K6 hK6
  obtain ⟨o9, h10, HL11⟩ := bind_some H
  clear H
  obtain ⟨R12, hR12⟩ : ∃ R : Act → World → Prop, R = fun a w => ∃ (u8 : Bool), u8 = o9 ∧ Kn [(2, (.pointer (some ⟨b2, 0, none⟩))), (3, (.pointer (some ⟨b3, 0, none⟩))), (4, (.pointer (some ⟨b4, 0, none⟩))), (13, (.bool u8))] 19 a ∧ Sat [] w0 w [(1, k0_0), (2, k0_1), (3, k1_0), (4, k1_1)] [(5, [(b2, .cells #[.string x0.Key, .int .i64 x0.Reg.Epoch, .int .i64 x0.Reg.Side, .int .i64 x0.Reg.Count, .int .i64 x0.Reg.Boot, .string x0.Reg.Base, .string x0.Reg.Tip, .string x0.Reg.Root, .slice A0_0 x0.Device.Sure.length p0_0, .slice A0_1 x0.Device.Unsure.length p0_1, .bool x0.Up, .bool x0.Dead] 37 (0, 0))]), (6, [(b3, .cells #[.slice A1_0 x1.Sure.length p1_0, .slice A1_1 x1.Unsure.length p1_1] 35 (0, 0))]), (7, [(b4, .cells #[.string ByteArray.empty, .int .i64 0, .int .i64 0, .int .i64 0, .int .i64 0, .string ByteArray.empty, .string ByteArray.empty, .string ByteArray.empty, .slice none 0 0, .slice none 0 0, .bool false, .bool false] 37 (0, 0))])] := ⟨_, rfl⟩
  refine wp_cutq R12 ?_ ?_
  · have H := h10
    apply wp_region_lit
    refine sln [.string x0.Key, .int .i64 x0.Reg.Epoch, .int .i64 x0.Reg.Side, .int .i64 x0.Reg.Count, .int .i64 x0.Reg.Boot, .string x0.Reg.Base, .string x0.Reg.Tip, .string x0.Reg.Root, .slice A0_0 x0.Device.Sure.length p0_0, .slice A0_1 x0.Device.Unsure.length p0_1, .bool x0.Up, .bool x0.Dead] rfl hk rfl rfl rfl ag37 sz37 (box_cells hs (k := 5) rfl) fun a hk => ?_
    obtain ⟨y13, h14, H⟩ := bind_some H
    refine sc rfl en17 hk rfl rfl rfl (impl_StoreOK_t _ x0 A0_0 p0_0 _ v0_0 (hs.hasD (k := 1) rfl) A0_1 p0_1 _ v0_1 (hs.hasD (k := 2) rfl) _ h14) ?_
    rintro _ w ⟨rfl, hG⟩ a hk
    have hs := hs.call0 hG
    refine sv (.bool (!y13)) hk rfl rfl rfl fun a hk => ?_
    refine sm _ rfl hk rfl rfl rfl fun a hk => ?_
    rcases cond_some H with ⟨c15, H⟩ | ⟨c15, H⟩
    · have hk := hk.lit 9 c15 rfl
      refine sk hk rfl rfl rfl fun a hk => ?_
      refine sk hk rfl rfl rfl fun a hk => ?_
      refine sk hk rfl rfl rfl fun a hk => ?_
      refine sv (.bool true) hk rfl rfl rfl fun a hk => ?_
      show wpList _ _ _ [] _ _
      refine wpList_nil ?_
      obtain rfl := Option.some.inj H
      show R12 _ _
      rw [hR12]
      exact ⟨true, rfl, (hk.c 2 rfl (hk.c 3 rfl (hk.c 4 rfl (hk.c 13 rfl hk.k)))), (hs.pick [(5, 5), (6, 6), (7, 7)] rfl)⟩
    · have hk := hk.lit 9 c15 rfl
      refine sln [.slice A1_0 x1.Sure.length p1_0, .slice A1_1 x1.Unsure.length p1_1] rfl hk rfl rfl rfl ag35 sz35 (box_cells hs (k := 6) rfl) fun a hk => ?_
      obtain ⟨y16, h17, H⟩ := bind_some H
      refine sc rfl en51 hk rfl rfl rfl (impl_isSure_t _ x1 A1_0 p1_0 _ v1_0 (hs.hasD (k := 3) rfl) A1_1 p1_1 _ v1_1 (hs.hasD (k := 4) rfl) _ h17) ?_
      rintro _ w ⟨rfl, hG⟩ a hk
      have hs := hs.call0 hG
      refine sv (.bool (!y16)) hk rfl rfl rfl fun a hk => ?_
      refine sv (.bool (!y16)) hk rfl rfl rfl fun a hk => ?_
      show wpList _ _ _ [] _ _
      refine wpList_nil ?_
      obtain rfl := Option.some.inj H
      show R12 _ _
      rw [hR12]
      exact ⟨(!y16), rfl, (hk.c 2 rfl (hk.c 3 rfl (hk.c 4 rfl (hk.c 13 rfl hk.k)))), (hs.pick [(5, 5), (6, 6), (7, 7)] rfl)⟩
  · intro a w hR0
    rw [hR12] at hR0
    obtain ⟨u8, rfl, hk, hs⟩ := hR0
    have H := HL11
    try dsimp only at H
    refine hK6 _ _ ?_
    rcases cond_some H with ⟨c18, H⟩ | ⟨c18, H⟩
    · have hk := hk.lit 13 c18 rfl
      refine cnd_true hk rfl rfl ?_
      apply wp_seq_k; intro K19 hK19
      apply wp_region_lit
      refine sbd (pv := []) rfl hk rfl rfl rfl bd37_2 fun a hk => ?_
      refine ssw 7 hs rfl rfl hk rfl rfl rfl rfl sz37 (by simp [Value.oneCell']) rfl fun w a hk hs => ?_
      refine sa _ rfl hk rfl rfl rfl fun a hk => ?_
      show wpList _ _ _ [] _ _
      refine wpList_nil ?_
      refine hK19 _ _ ?_
      refine wp_ret ?_
      obtain rfl := Option.some.inj H
      have hs := hs.addNil 9
      have hs := hs.addNil 10
      exact fin hk _ [(.agg #[.string ByteArray.empty, .int .i64 0, .int .i64 0, .int .i64 0, .int .i64 0, .string ByteArray.empty, .string ByteArray.empty, .string ByteArray.empty, .slice none 0 0, .slice none 0 0, .bool false, .bool false]), (.int .i64 1)] rfl ⟨⟨_, rfl, run_loadN ag37 sz37 (box_cells hs (k := 7) rfl)⟩, ⟨rfl, trivial⟩⟩ ⟨none, 0, [], none, 0, [], rfl, Own.nil _ _, Own.nil _ _, (hs.pick [(0, 9), (1, 10)] rfl).dnil⟩
    · have hk := hk.lit 13 c18 rfl
      refine cnd_false hk rfl rfl ?_
      refine wp_skip ?_
      refine hK5 _ _ ?_
      apply wp_seq_k; intro K20 hK20
      apply wp_region_lit
      refine sln [.slice A1_0 x1.Sure.length p1_0, .slice A1_1 x1.Unsure.length p1_1] rfl hk rfl rfl rfl ag35 sz35 (box_cells hs (k := 6) rfl) fun a hk => ?_
      obtain ⟨y21, h22, H⟩ := bind_some H
      refine sc rfl en80 hk rfl rfl rfl (impl_Device_own_t _ x1 A1_0 p1_0 _ v1_0 (hs.hasD (k := 3) rfl) A1_1 p1_1 _ v1_1 (hs.hasD (k := 4) rfl) _ h22) ?_
      rintro _ w ⟨A23, p24, k25, A27, p28, k29, rfl, o26, o30, hG⟩ a hk
      have hs := hs.call0k hG [11, 12] rfl
      refine sf ⟨b2, 8, none⟩ rfl hk rfl rfl rfl fd37_2 rfl fun a hk => ?_
      refine ssp (cs' := #[.string x0.Key, .int .i64 x0.Reg.Epoch, .int .i64 x0.Reg.Side, .int .i64 x0.Reg.Count, .int .i64 x0.Reg.Boot, .string x0.Reg.Base, .string x0.Reg.Tip, .string x0.Reg.Root, .slice A23 y21.Sure.length p24, .slice A27 y21.Unsure.length p28, .bool x0.Up, .bool x0.Dead]) 5 hs rfl rfl hk rfl rfl rfl rfl sz35 (by simp [Value.oneCell']) rfl rfl fun w a hk hs => ?_
      show wpList _ _ _ [] _ _
      refine wpList_nil ?_
      refine hK20 _ _ ?_
      apply wp_seq_k; intro K31 hK31
      apply wp_region_lit
      refine sln [.string x0.Key, .int .i64 x0.Reg.Epoch, .int .i64 x0.Reg.Side, .int .i64 x0.Reg.Count, .int .i64 x0.Reg.Boot, .string x0.Reg.Base, .string x0.Reg.Tip, .string x0.Reg.Root, .slice A23 y21.Sure.length p24, .slice A27 y21.Unsure.length p28, .bool x0.Up, .bool x0.Dead] rfl hk rfl rfl rfl ag37 sz37 (box_cells hs (k := 5) rfl) fun a hk => ?_
      refine ssw 7 hs rfl rfl hk rfl rfl rfl rfl sz37 (by simp [Value.oneCell']) rfl fun w a hk hs => ?_
      refine sa _ rfl hk rfl rfl rfl fun a hk => ?_
      show wpList _ _ _ [] _ _
      refine wpList_nil ?_
      refine hK31 _ _ ?_
      refine wp_ret ?_
      obtain rfl := Option.some.inj H
      exact fin hk _ [(.agg #[.string x0.Key, .int .i64 x0.Reg.Epoch, .int .i64 x0.Reg.Side, .int .i64 x0.Reg.Count, .int .i64 x0.Reg.Boot, .string x0.Reg.Base, .string x0.Reg.Tip, .string x0.Reg.Root, .slice A23 y21.Sure.length p24, .slice A27 y21.Unsure.length p28, .bool x0.Up, .bool x0.Dead]), (.int .i64 0)] rfl ⟨⟨_, rfl, run_loadN ag37 sz37 (box_cells hs (k := 7) rfl)⟩, ⟨rfl, trivial⟩⟩ ⟨A23, p24, _, A27, p28, _, rfl, o26, o30, (hs.pick [(0, 11), (1, 12)] rfl).dnil⟩

noncomputable def laws_FnExactWithDevice.f (x0 : S_Store) (x1 : S_Device) : Option (Bool) :=
  ((laws_szStore.f x0 1048576).bind fun y6 => (bif (decide (y6 < 0)) then (some true) else ((laws_szDevice.f x1 y6).bind fun y13 => (bif (decide (y13 < 0)) then (some true) else ((laws_toStore.f x0).bind fun y_r20_1_1 => ((laws_toDevice.f x1).bind fun y_r20_3_1 => ((spec_WithDevice.f y_r20_1_1 y_r20_3_1).bind fun y_r20_4_1 => ((laws_toStore.f x0).bind fun y23 => ((laws_toDevice.f x1).bind fun y35 => ((impl_WithDevice.f y23 y35).bind fun y47 => ((((laws_eqStore.f y47.1 (⟨y_r20_4_1.1.Key, y_r20_4_1.1.Reg, (⟨y_r20_4_1.1.Device.Sure, y_r20_4_1.1.Device.Unsure⟩ : S_Device), y_r20_4_1.1.Up, y_r20_4_1.1.Dead⟩ : S_Store)).bind fun y66 => (bif (!y66) then (some true) else (some (y47.2 != y_r20_4_1.2)))) : Option (Bool)).bind fun u61 => (bif u61 then (some false) else ((laws_toStore.f x0).bind fun y74 => ((laws_eqStore.f y23 y74).bind fun y84 => (bif (!y84) then (some false) else ((laws_toDevice.f x1).bind fun y91 => ((laws_eqDevice.f y35 y91).bind fun y101 => (bif (!y101) then (some false) else ((laws_markStore.f y23 1).bind fun y107 => ((laws_markDevice.f y35 y107.1).bind fun y118 => (((bif (decide (y118.1 < 0)) then (some true) else ((laws_eqStore.f y47.1 (⟨y_r20_4_1.1.Key, y_r20_4_1.1.Reg, (⟨y_r20_4_1.1.Device.Sure, y_r20_4_1.1.Device.Unsure⟩ : S_Device), y_r20_4_1.1.Up, y_r20_4_1.1.Dead⟩ : S_Store)).bind fun y137 => (bif (!y137) then (some true) else (some (y47.2 != y_r20_4_1.2))))) : Option (Bool)).bind fun u131 => (bif u131 then (some false) else ((laws_markStore.f y47.1 1).bind fun y144 => ((laws_heldStore.f (⟨y47.1.Key, y47.1.Reg, (⟨y144.2.1, y144.2.2⟩ : S_Device), y47.1.Up, y47.1.Dead⟩ : S_Store) 1).bind fun y156 => (bif (decide (y156 < 0)) then (some false) else (bif (y156 != y144.1) then (some false) else ((laws_toStore.f x0).bind fun y_r167_1_1 => ((laws_toDevice.f x1).bind fun y_r167_3_1 => ((impl_WithDevice.f y_r167_1_1 y_r167_3_1).bind fun y_r167_4_1 => ((((laws_eqStore.f (⟨y_r167_4_1.1.Key, y_r167_4_1.1.Reg, (⟨y_r167_4_1.1.Device.Sure, y_r167_4_1.1.Device.Unsure⟩ : S_Device), y_r167_4_1.1.Up, y_r167_4_1.1.Dead⟩ : S_Store) (⟨y_r20_4_1.1.Key, y_r20_4_1.1.Reg, (⟨y_r20_4_1.1.Device.Sure, y_r20_4_1.1.Device.Unsure⟩ : S_Device), y_r20_4_1.1.Up, y_r20_4_1.1.Dead⟩ : S_Store)).bind fun y177 => (bif (!y177) then (some true) else (some (y_r167_4_1.2 != y_r20_4_1.2)))) : Option (Bool)).bind fun u172 => (bif u172 then (some false) else ((laws_heldStore.f (⟨y47.1.Key, y47.1.Reg, (⟨y144.2.1, y144.2.2⟩ : S_Device), y47.1.Up, y47.1.Dead⟩ : S_Store) 1).bind fun y184 => (bif (decide (y184 < 0)) then (some false) else (bif (y184 != y144.1) then (some false) else (some true)))))))))))))))))))))))))))))))))))
set_option maxRecDepth 100000 in
set_option maxHeartbeats 0 in
theorem laws_FnExactWithDevice_t (w0 : World) (x0 : S_Store) (A0_0 : Option Addr) (p0_0 : Nat) (k0_0 : Chunk) (v0_0 : View Lay.str A0_0 p0_0 x0.Device.Sure k0_0) (w0_0 : Has w0 k0_0) (A0_1 : Option Addr) (p0_1 : Nat) (k0_1 : Chunk) (v0_1 : View L_Io A0_1 p0_1 x0.Device.Unsure k0_1) (w0_1 : Has w0 k0_1) (x1 : S_Device) (A1_0 : Option Addr) (p1_0 : Nat) (k1_0 : Chunk) (v1_0 : View Lay.str A1_0 p1_0 x1.Sure k1_0) (w1_0 : Has w0 k1_0) (A1_1 : Option Addr) (p1_1 : Nat) (k1_1 : Chunk) (v1_1 : View L_Io A1_1 p1_1 x1.Unsure k1_1) (w1_1 : Has w0 k1_1) (r : Bool) (H : laws_FnExactWithDevice.f x0 x1 = some r) :
    Calls Try.prog 10 #[.agg #[.string x0.Key, .int .i64 x0.Reg.Epoch, .int .i64 x0.Reg.Side, .int .i64 x0.Reg.Count, .int .i64 x0.Reg.Boot, .string x0.Reg.Base, .string x0.Reg.Tip, .string x0.Reg.Root, .slice A0_0 x0.Device.Sure.length p0_0, .slice A0_1 x0.Device.Unsure.length p0_1, .bool x0.Up, .bool x0.Dead], .agg #[.slice A1_0 x1.Sure.length p1_0, .slice A1_1 x1.Unsure.length p1_1]] w0 (Ret (fun v w => v = .bool r ∧ Sat [] w0 w [] [])) := by
  have hs : Sat [] w0 w0 [(1, k0_0), (2, k0_1), (3, k1_0), (4, k1_1)] [] := Sat.init w0 [(1, k0_0), (2, k0_1), (3, k1_0), (4, k1_1)] [] (by simp only [List.mem_cons, List.not_mem_nil, or_false]; rintro x (rfl | rfl | rfl | rfl) <;> assumption) (by simp) List.nodup_nil (by simp [blks])
  unfold laws_FnExactWithDevice.f at H
  refine enter Try.func10 rfl Try.ntmps10 rfl fun a hk => ?_
  apply wp_seq_k; intro K1 hK1
  apply wp_region_lit
  refine sbx 5 hs rfl hk rfl rfl rfl rfl fun b2 w a hk hs => ?_
  refine sbx 6 hs rfl hk rfl rfl rfl rfl fun b3 w a hk hs => ?_
  refine sa _ rfl hk rfl rfl rfl fun a hk => ?_
  show wpList _ _ _ [] _ _
  refine wpList_nil ?_
  refine hK1 _ _ ?_
  apply wp_seq_k; intro K4 hK4
  apply wp_region_lit
  refine sa _ rfl hk rfl rfl rfl fun a hk => ?_
  show wpList _ _ _ [] _ _
  refine wpList_nil ?_
  refine hK4 _ _ ?_
  apply wp_seq_k; intro K5 hK5
  apply wp_region_lit
  refine sln [.string x0.Key, .int .i64 x0.Reg.Epoch, .int .i64 x0.Reg.Side, .int .i64 x0.Reg.Count, .int .i64 x0.Reg.Boot, .string x0.Reg.Base, .string x0.Reg.Tip, .string x0.Reg.Root, .slice A0_0 x0.Device.Sure.length p0_0, .slice A0_1 x0.Device.Unsure.length p0_1, .bool x0.Up, .bool x0.Dead] rfl hk rfl rfl rfl ag29 sz29 (box_cells hs (k := 5) rfl) fun a hk => ?_
  refine sm _ rfl hk rfl rfl rfl fun a hk => ?_
  obtain ⟨y6, h7, H⟩ := bind_some H
  refine sc rfl en11 hk rfl rfl rfl (laws_szStore_t _ x0 A0_0 p0_0 _ v0_0 (hs.hasD (k := 1) rfl) A0_1 p0_1 _ v0_1 (hs.hasD (k := 2) rfl) 1048576 _ h7) ?_
  rintro _ w ⟨rfl, hG⟩ a hk
  have hs := hs.call0 hG
  refine sa _ rfl hk rfl rfl rfl fun a hk => ?_
  show wpList _ _ _ [] _ _
  refine wpList_nil ?_
  refine hK5 _ _ ?_
  apply wp_seq_k; intro K8 hK8
  apply wp_seq_k; intro K9 hK9
  apply wp_region_lit
  refine sm _ rfl hk rfl rfl rfl fun a hk => ?_
  refine sv (.bool (decide (y6 < 0))) hk rfl rfl rfl fun a hk => ?_
  show wpList _ _ _ [] _ _
  refine wpList_nil ?_
  refine hK9 _ _ ?_
  rcases cond_some H with ⟨c10, H⟩ | ⟨c10, H⟩
  · have hk := hk.lit 21 c10 rfl
    refine cnd_true hk rfl rfl ?_
    apply wp_seq_k; intro K11 hK11
    apply wp_region_lit
    refine sa _ rfl hk rfl rfl rfl fun a hk => ?_
    show wpList _ _ _ [] _ _
    refine wpList_nil ?_
    refine hK11 _ _ ?_
    refine wp_ret ?_
    obtain rfl := Option.some.inj H
    exact fin hk _ [(.bool true)] rfl ⟨rfl, trivial⟩ ⟨rfl, (hs.pick [] rfl).dnil⟩
  · have hk := hk.lit 21 c10 rfl
    refine cnd_false hk rfl rfl ?_
    refine wp_skip ?_
    refine hK8 _ _ ?_
    apply wp_seq_k; intro K12 hK12
    apply wp_region_lit
    refine sln [.slice A1_0 x1.Sure.length p1_0, .slice A1_1 x1.Unsure.length p1_1] rfl hk rfl rfl rfl ag27 sz27 (box_cells hs (k := 6) rfl) fun a hk => ?_
    refine sm _ rfl hk rfl rfl rfl fun a hk => ?_
    obtain ⟨y13, h14, H⟩ := bind_some H
    refine sc rfl en28 hk rfl rfl rfl (laws_szDevice_t _ x1 A1_0 p1_0 _ v1_0 (hs.hasD (k := 3) rfl) A1_1 p1_1 _ v1_1 (hs.hasD (k := 4) rfl) y6 _ h14) ?_
    rintro _ w ⟨rfl, hG⟩ a hk
    have hs := hs.call0 hG
    refine sa _ rfl hk rfl rfl rfl fun a hk => ?_
    show wpList _ _ _ [] _ _
    refine wpList_nil ?_
    refine hK12 _ _ ?_
    apply wp_seq_k; intro K15 hK15
    apply wp_seq_k; intro K16 hK16
    apply wp_region_lit
    refine sm _ rfl hk rfl rfl rfl fun a hk => ?_
    refine sv (.bool (decide (y13 < 0))) hk rfl rfl rfl fun a hk => ?_
    show wpList _ _ _ [] _ _
    refine wpList_nil ?_
    refine hK16 _ _ ?_
    rcases cond_some H with ⟨c17, H⟩ | ⟨c17, H⟩
    · have hk := hk.lit 26 c17 rfl
      refine cnd_true hk rfl rfl ?_
      apply wp_seq_k; intro K18 hK18
      apply wp_region_lit
      refine sa _ rfl hk rfl rfl rfl fun a hk => ?_
      show wpList _ _ _ [] _ _
      refine wpList_nil ?_
      refine hK18 _ _ ?_
      refine wp_ret ?_
      obtain rfl := Option.some.inj H
      exact fin hk _ [(.bool true)] rfl ⟨rfl, trivial⟩ ⟨rfl, (hs.pick [] rfl).dnil⟩
    · have hk := hk.lit 26 c17 rfl
      refine cnd_false hk rfl rfl ?_
      refine wp_skip ?_
      refine hK15 _ _ ?_
      apply wp_seq_k; intro K19 hK19
      obtain ⟨y_r20_1_1, h_r20_1_2, H⟩ := bind_some H
      obtain ⟨y_r20_3_1, h_r20_3_2, H⟩ := bind_some H
      obtain ⟨y_r20_4_1, h_r20_4_2, H⟩ := bind_some H
      obtain ⟨R21, hR21⟩ : ∃ R : Act → World → Prop, R = fun a w => ∃ (b_r20_8_1 : Nat) (A_r20_4_3 : Option Addr) (p_r20_4_4 : Nat) (A_r20_4_7 : Option Addr) (p_r20_4_8 : Nat) (k_r20_4_5 : Chunk) (k_r20_4_9 : Chunk), Kn [(2, (.pointer (some ⟨b2, 0, none⟩))), (3, (.pointer (some ⟨b3, 0, none⟩))), (6, (.pointer (some ⟨b_r20_8_1, 0, none⟩))), (7, (.int .i64 y_r20_4_1.2))] 119 a ∧ Sat [] w0 w [(1, k0_0), (2, k0_1), (3, k1_0), (4, k1_1)] [(5, [(b2, .cells #[.string x0.Key, .int .i64 x0.Reg.Epoch, .int .i64 x0.Reg.Side, .int .i64 x0.Reg.Count, .int .i64 x0.Reg.Boot, .string x0.Reg.Base, .string x0.Reg.Tip, .string x0.Reg.Root, .slice A0_0 x0.Device.Sure.length p0_0, .slice A0_1 x0.Device.Unsure.length p0_1, .bool x0.Up, .bool x0.Dead] 29 (0, 0))]), (6, [(b3, .cells #[.slice A1_0 x1.Sure.length p1_0, .slice A1_1 x1.Unsure.length p1_1] 27 (0, 0))]), (107161, [(b_r20_8_1, .cells #[.string y_r20_4_1.1.Key, .int .i64 y_r20_4_1.1.Reg.Epoch, .int .i64 y_r20_4_1.1.Reg.Side, .int .i64 y_r20_4_1.1.Reg.Count, .int .i64 y_r20_4_1.1.Reg.Boot, .string y_r20_4_1.1.Reg.Base, .string y_r20_4_1.1.Reg.Tip, .string y_r20_4_1.1.Reg.Root, .slice A_r20_4_3 y_r20_4_1.1.Device.Sure.length p_r20_4_4, .slice A_r20_4_7 y_r20_4_1.1.Device.Unsure.length p_r20_4_8, .bool y_r20_4_1.1.Up, .bool y_r20_4_1.1.Dead] 37 (0, 0))]), (107081, k_r20_4_5), (107082, k_r20_4_9)] ∧ Own Lay.str 9 A_r20_4_3 p_r20_4_4 y_r20_4_1.1.Device.Sure k_r20_4_5 ∧ Own L_Io 114 A_r20_4_7 p_r20_4_8 y_r20_4_1.1.Device.Unsure k_r20_4_9 := ⟨_, rfl⟩
      refine wp_cutq R21 ?_ ?_
      · skip
        refine wp_region_tree (.q 0 (.q 2 (.alt 1 (.alt 3 (.alt 4 (.q 5 (.q 6 (.q 7 (.alt 8 (.alt 9 (.last 10) .stop) .stop)))) (.alt 8 (.alt 4 (.alt 5 (.q 6 (.q 7 (.alt 9 (.last 10) .stop))) .stop) .stop) .stop)) (.alt 8 (.alt 3 (.alt 4 (.alt 5 (.q 6 (.q 7 (.alt 9 (.last 10) .stop))) .stop) .stop) .stop) .stop)) (.alt 8 (.alt 1 (.alt 3 (.alt 4 (.alt 5 (.q 6 (.q 7 (.alt 9 (.last 10) .stop))) .stop) .stop) .stop) .stop) .stop)))) mo (by kernel_rfl) (hs.pick [(6, 6), (5, 5)] rfl) fun _ => ?_
        have hs := hs.drew
        refine tqst (.agg #[.string x0.Key, .int .i64 x0.Reg.Epoch, .int .i64 x0.Reg.Side, .int .i64 x0.Reg.Count, .int .i64 x0.Reg.Boot, .string x0.Reg.Base, .string x0.Reg.Tip, .string x0.Reg.Root, .slice A0_0 x0.Device.Sure.length p0_0, .slice A0_1 x0.Device.Unsure.length p0_1, .bool x0.Up, .bool x0.Dead]) hk rfl rfl rfl rfl (fun w hs => sln [.string x0.Key, .int .i64 x0.Reg.Epoch, .int .i64 x0.Reg.Side, .int .i64 x0.Reg.Count, .int .i64 x0.Reg.Boot, .string x0.Reg.Base, .string x0.Reg.Tip, .string x0.Reg.Root, .slice A0_0 x0.Device.Sure.length p0_0, .slice A0_1 x0.Device.Unsure.length p0_1, .bool x0.Up, .bool x0.Dead] rfl hk rfl rfl rfl ag29 sz29 (box_cells hs (k := 5) rfl) fun a hk => qe hk) fun a hk => ?_
        refine tqst (.agg #[.slice A1_0 x1.Sure.length p1_0, .slice A1_1 x1.Unsure.length p1_1]) hk rfl rfl rfl rfl (fun w hs => sln [.slice A1_0 x1.Sure.length p1_0, .slice A1_1 x1.Unsure.length p1_1] rfl hk rfl rfl rfl ag27 sz27 (box_cells hs (k := 6) rfl) fun a hk => qe hk) fun a hk => ?_
        refine tsst hk rfl rfl (fun K_r20_1 hK_r20_1 w hF => ?_) ?_
        · skip
          have hs := hs.f hF
          refine sc rfl en13 hk rfl rfl rfl (laws_toStore_t _ x0 A0_0 p0_0 _ v0_0 (hs.hasD (k := 1) rfl) A0_1 p0_1 _ v0_1 (hs.hasD (k := 2) rfl) _ h_r20_1_2) ?_
          rintro _ w ⟨A_r20_1_3, p_r20_1_4, k_r20_1_5, A_r20_1_7, p_r20_1_8, k_r20_1_9, rfl, o_r20_1_6, o_r20_1_10, hG⟩ a hk
          have hs := hs.call0k hG [107021, 107022] rfl
          refine se (hs.pick [(6, 6), (5, 5)] rfl) hk (hK_r20_1 _ _ ?_)
          refine tsst hk rfl rfl (fun K_r20_3 hK_r20_3 w hF => ?_) ?_
          · skip
            have hs := hs.f hF
            refine sc rfl en30 hk rfl rfl rfl (laws_toDevice_t _ x1 A1_0 p1_0 _ v1_0 (hs.hasD (k := 3) rfl) A1_1 p1_1 _ v1_1 (hs.hasD (k := 4) rfl) _ h_r20_3_2) ?_
            rintro _ w ⟨A_r20_3_3, p_r20_3_4, k_r20_3_5, A_r20_3_7, p_r20_3_8, k_r20_3_9, rfl, o_r20_3_6, o_r20_3_10, hG⟩ a hk
            have hs := hs.call0k hG [107061, 107062] rfl
            refine se (hs.pick [(6, 6), (5, 5)] rfl) hk (hK_r20_3 _ _ ?_)
            refine tsst hk rfl rfl (fun K_r20_4 hK_r20_4 w hF => ?_) ?_
            · skip
              have hs := hs.f hF
              refine sc rfl en41 hk rfl rfl rfl (spec_WithDevice_t _ y_r20_1_1 A_r20_1_3 p_r20_1_4 _ o_r20_1_6.view (hs.hasG (k := 107021) rfl) A_r20_1_7 p_r20_1_8 _ o_r20_1_10.view (hs.hasG (k := 107022) rfl) y_r20_3_1 A_r20_3_3 p_r20_3_4 _ o_r20_3_6.view (hs.hasG (k := 107061) rfl) A_r20_3_7 p_r20_3_8 _ o_r20_3_10.view (hs.hasG (k := 107062) rfl) _ h_r20_4_2) ?_
              rintro _ w ⟨A_r20_4_3, p_r20_4_4, k_r20_4_5, A_r20_4_7, p_r20_4_8, k_r20_4_9, rfl, o_r20_4_6, o_r20_4_10, hG⟩ a hk
              have hs := hs.call0k hG [107081, 107082] rfl
              refine se (hs.pick [(6, 6), (5, 5)] rfl) hk (hK_r20_4 _ _ ?_)
              refine tqst (.tuple #[(.agg #[.string y_r20_4_1.1.Key, .int .i64 y_r20_4_1.1.Reg.Epoch, .int .i64 y_r20_4_1.1.Reg.Side, .int .i64 y_r20_4_1.1.Reg.Count, .int .i64 y_r20_4_1.1.Reg.Boot, .string y_r20_4_1.1.Reg.Base, .string y_r20_4_1.1.Reg.Tip, .string y_r20_4_1.1.Reg.Root, .slice A_r20_4_3 y_r20_4_1.1.Device.Sure.length p_r20_4_4, .slice A_r20_4_7 y_r20_4_1.1.Device.Unsure.length p_r20_4_8, .bool y_r20_4_1.1.Up, .bool y_r20_4_1.1.Dead]), (.int .i64 y_r20_4_1.2)]) hk rfl rfl rfl rfl (fun w hs => sm _ rfl hk rfl rfl rfl fun a hk => qe hk) fun a hk => ?_
              refine tqst (.agg #[.string y_r20_4_1.1.Key, .int .i64 y_r20_4_1.1.Reg.Epoch, .int .i64 y_r20_4_1.1.Reg.Side, .int .i64 y_r20_4_1.1.Reg.Count, .int .i64 y_r20_4_1.1.Reg.Boot, .string y_r20_4_1.1.Reg.Base, .string y_r20_4_1.1.Reg.Tip, .string y_r20_4_1.1.Reg.Root, .slice A_r20_4_3 y_r20_4_1.1.Device.Sure.length p_r20_4_4, .slice A_r20_4_7 y_r20_4_1.1.Device.Unsure.length p_r20_4_8, .bool y_r20_4_1.1.Up, .bool y_r20_4_1.1.Dead]) hk rfl rfl rfl rfl (fun w hs => sv (.agg #[.string y_r20_4_1.1.Key, .int .i64 y_r20_4_1.1.Reg.Epoch, .int .i64 y_r20_4_1.1.Reg.Side, .int .i64 y_r20_4_1.1.Reg.Count, .int .i64 y_r20_4_1.1.Reg.Boot, .string y_r20_4_1.1.Reg.Base, .string y_r20_4_1.1.Reg.Tip, .string y_r20_4_1.1.Reg.Root, .slice A_r20_4_3 y_r20_4_1.1.Device.Sure.length p_r20_4_4, .slice A_r20_4_7 y_r20_4_1.1.Device.Unsure.length p_r20_4_8, .bool y_r20_4_1.1.Up, .bool y_r20_4_1.1.Dead]) hk rfl rfl rfl fun a hk => qe hk) fun a hk => ?_
              refine tqst (.int .i64 y_r20_4_1.2) hk rfl rfl rfl rfl (fun w hs => sv (.int .i64 y_r20_4_1.2) hk rfl rfl rfl fun a hk => qe hk) fun a hk => ?_
              refine tsst hk rfl rfl (fun K_r20_8 hK_r20_8 w hF => ?_) wt_stop
              have hs := hs.f hF
              refine salx 107161 hs rfl hk rfl rfl ze37 rfl fun b_r20_8_1 w a hk hs => ?_
              refine se (hs.pick [(6, 6), (5, 5)] rfl) hk (hK_r20_8 _ _ ?_)
              refine tsst hk rfl rfl (fun K_r20_9 hK_r20_9 w hF => ?_) wt_stop
              have hs := hs.f hF
              refine ssw 107161 hs rfl rfl hk rfl rfl rfl rfl sz37 (by simp [Value.oneCell']) rfl fun w a hk hs => ?_
              refine se (hs.pick [(6, 6), (5, 5)] rfl) hk (hK_r20_9 _ _ ?_)
              refine tlst hk rfl rfl fun K_r20_10 hK_r20_10 w hF => ?_
              have hs := hs.f hF
              refine sa _ rfl hk rfl rfl rfl fun a hk => ?_
              refine se trivial hk (hK_r20_10 _ _ fun w hF => ?_)
              have hs := hs.f hF
              show R21 _ _
              rw [hR21]
              exact ⟨b_r20_8_1, A_r20_4_3, p_r20_4_4, A_r20_4_7, p_r20_4_8, k_r20_4_5, k_r20_4_9, (hk.c 2 rfl (hk.c 3 rfl (hk.c 6 rfl (hk.c 7 rfl hk.k)))), (hs.pick [(5, 5), (6, 6), (107161, 107161), (107081, 107081), (107082, 107082)] rfl), o_r20_4_6, o_r20_4_10⟩
            refine tsst hk rfl rfl (fun K_r20_8 hK_r20_8 w hF => ?_) wt_stop
            have hs := hs.f hF
            refine salx 107161 hs rfl hk rfl rfl ze37 rfl fun b_r20_8_1 w a hk hs => ?_
            refine se (hs.pick [(6, 6), (5, 5)] rfl) hk (hK_r20_8 _ _ ?_)
            refine tsst hk rfl rfl (fun K_r20_4 hK_r20_4 w hF => ?_) wt_stop
            have hs := hs.f hF
            refine sc rfl en41 hk rfl rfl rfl (spec_WithDevice_t _ y_r20_1_1 A_r20_1_3 p_r20_1_4 _ o_r20_1_6.view (hs.hasG (k := 107021) rfl) A_r20_1_7 p_r20_1_8 _ o_r20_1_10.view (hs.hasG (k := 107022) rfl) y_r20_3_1 A_r20_3_3 p_r20_3_4 _ o_r20_3_6.view (hs.hasG (k := 107061) rfl) A_r20_3_7 p_r20_3_8 _ o_r20_3_10.view (hs.hasG (k := 107062) rfl) _ h_r20_4_2) ?_
            rintro _ w ⟨A_r20_4_3, p_r20_4_4, k_r20_4_5, A_r20_4_7, p_r20_4_8, k_r20_4_9, rfl, o_r20_4_6, o_r20_4_10, hG⟩ a hk
            have hs := hs.call0k hG [107081, 107082] rfl
            refine se (hs.pick [(6, 6), (5, 5)] rfl) hk (hK_r20_4 _ _ ?_)
            refine tsst hk rfl rfl (fun K_r20_5 hK_r20_5 w hF => ?_) wt_stop
            have hs := hs.f hF
            refine sm _ rfl hk rfl rfl rfl fun a hk => ?_
            refine se (hs.pick [(6, 6), (5, 5)] rfl) hk (hK_r20_5 _ _ ?_)
            refine tqst (.agg #[.string y_r20_4_1.1.Key, .int .i64 y_r20_4_1.1.Reg.Epoch, .int .i64 y_r20_4_1.1.Reg.Side, .int .i64 y_r20_4_1.1.Reg.Count, .int .i64 y_r20_4_1.1.Reg.Boot, .string y_r20_4_1.1.Reg.Base, .string y_r20_4_1.1.Reg.Tip, .string y_r20_4_1.1.Reg.Root, .slice A_r20_4_3 y_r20_4_1.1.Device.Sure.length p_r20_4_4, .slice A_r20_4_7 y_r20_4_1.1.Device.Unsure.length p_r20_4_8, .bool y_r20_4_1.1.Up, .bool y_r20_4_1.1.Dead]) hk rfl rfl rfl rfl (fun w hs => sv (.agg #[.string y_r20_4_1.1.Key, .int .i64 y_r20_4_1.1.Reg.Epoch, .int .i64 y_r20_4_1.1.Reg.Side, .int .i64 y_r20_4_1.1.Reg.Count, .int .i64 y_r20_4_1.1.Reg.Boot, .string y_r20_4_1.1.Reg.Base, .string y_r20_4_1.1.Reg.Tip, .string y_r20_4_1.1.Reg.Root, .slice A_r20_4_3 y_r20_4_1.1.Device.Sure.length p_r20_4_4, .slice A_r20_4_7 y_r20_4_1.1.Device.Unsure.length p_r20_4_8, .bool y_r20_4_1.1.Up, .bool y_r20_4_1.1.Dead]) hk rfl rfl rfl fun a hk => qe hk) fun a hk => ?_
            refine tqst (.int .i64 y_r20_4_1.2) hk rfl rfl rfl rfl (fun w hs => sv (.int .i64 y_r20_4_1.2) hk rfl rfl rfl fun a hk => qe hk) fun a hk => ?_
            refine tsst hk rfl rfl (fun K_r20_9 hK_r20_9 w hF => ?_) wt_stop
            have hs := hs.f hF
            refine ssw 107161 hs rfl rfl hk rfl rfl rfl rfl sz37 (by simp [Value.oneCell']) rfl fun w a hk hs => ?_
            refine se (hs.pick [(6, 6), (5, 5)] rfl) hk (hK_r20_9 _ _ ?_)
            refine tlst hk rfl rfl fun K_r20_10 hK_r20_10 w hF => ?_
            have hs := hs.f hF
            refine sa _ rfl hk rfl rfl rfl fun a hk => ?_
            refine se trivial hk (hK_r20_10 _ _ fun w hF => ?_)
            have hs := hs.f hF
            show R21 _ _
            rw [hR21]
            exact ⟨b_r20_8_1, A_r20_4_3, p_r20_4_4, A_r20_4_7, p_r20_4_8, k_r20_4_5, k_r20_4_9, (hk.c 2 rfl (hk.c 3 rfl (hk.c 6 rfl (hk.c 7 rfl hk.k)))), (hs.pick [(5, 5), (6, 6), (107161, 107161), (107081, 107081), (107082, 107082)] rfl), o_r20_4_6, o_r20_4_10⟩
          refine tsst hk rfl rfl (fun K_r20_8 hK_r20_8 w hF => ?_) wt_stop
          have hs := hs.f hF
          refine salx 107161 hs rfl hk rfl rfl ze37 rfl fun b_r20_8_1 w a hk hs => ?_
          refine se (hs.pick [(6, 6), (5, 5)] rfl) hk (hK_r20_8 _ _ ?_)
          refine tsst hk rfl rfl (fun K_r20_3 hK_r20_3 w hF => ?_) wt_stop
          have hs := hs.f hF
          refine sc rfl en30 hk rfl rfl rfl (laws_toDevice_t _ x1 A1_0 p1_0 _ v1_0 (hs.hasD (k := 3) rfl) A1_1 p1_1 _ v1_1 (hs.hasD (k := 4) rfl) _ h_r20_3_2) ?_
          rintro _ w ⟨A_r20_3_3, p_r20_3_4, k_r20_3_5, A_r20_3_7, p_r20_3_8, k_r20_3_9, rfl, o_r20_3_6, o_r20_3_10, hG⟩ a hk
          have hs := hs.call0k hG [107061, 107062] rfl
          refine se (hs.pick [(6, 6), (5, 5)] rfl) hk (hK_r20_3 _ _ ?_)
          refine tsst hk rfl rfl (fun K_r20_4 hK_r20_4 w hF => ?_) wt_stop
          have hs := hs.f hF
          refine sc rfl en41 hk rfl rfl rfl (spec_WithDevice_t _ y_r20_1_1 A_r20_1_3 p_r20_1_4 _ o_r20_1_6.view (hs.hasG (k := 107021) rfl) A_r20_1_7 p_r20_1_8 _ o_r20_1_10.view (hs.hasG (k := 107022) rfl) y_r20_3_1 A_r20_3_3 p_r20_3_4 _ o_r20_3_6.view (hs.hasG (k := 107061) rfl) A_r20_3_7 p_r20_3_8 _ o_r20_3_10.view (hs.hasG (k := 107062) rfl) _ h_r20_4_2) ?_
          rintro _ w ⟨A_r20_4_3, p_r20_4_4, k_r20_4_5, A_r20_4_7, p_r20_4_8, k_r20_4_9, rfl, o_r20_4_6, o_r20_4_10, hG⟩ a hk
          have hs := hs.call0k hG [107081, 107082] rfl
          refine se (hs.pick [(6, 6), (5, 5)] rfl) hk (hK_r20_4 _ _ ?_)
          refine tsst hk rfl rfl (fun K_r20_5 hK_r20_5 w hF => ?_) wt_stop
          have hs := hs.f hF
          refine sm _ rfl hk rfl rfl rfl fun a hk => ?_
          refine se (hs.pick [(6, 6), (5, 5)] rfl) hk (hK_r20_5 _ _ ?_)
          refine tqst (.agg #[.string y_r20_4_1.1.Key, .int .i64 y_r20_4_1.1.Reg.Epoch, .int .i64 y_r20_4_1.1.Reg.Side, .int .i64 y_r20_4_1.1.Reg.Count, .int .i64 y_r20_4_1.1.Reg.Boot, .string y_r20_4_1.1.Reg.Base, .string y_r20_4_1.1.Reg.Tip, .string y_r20_4_1.1.Reg.Root, .slice A_r20_4_3 y_r20_4_1.1.Device.Sure.length p_r20_4_4, .slice A_r20_4_7 y_r20_4_1.1.Device.Unsure.length p_r20_4_8, .bool y_r20_4_1.1.Up, .bool y_r20_4_1.1.Dead]) hk rfl rfl rfl rfl (fun w hs => sv (.agg #[.string y_r20_4_1.1.Key, .int .i64 y_r20_4_1.1.Reg.Epoch, .int .i64 y_r20_4_1.1.Reg.Side, .int .i64 y_r20_4_1.1.Reg.Count, .int .i64 y_r20_4_1.1.Reg.Boot, .string y_r20_4_1.1.Reg.Base, .string y_r20_4_1.1.Reg.Tip, .string y_r20_4_1.1.Reg.Root, .slice A_r20_4_3 y_r20_4_1.1.Device.Sure.length p_r20_4_4, .slice A_r20_4_7 y_r20_4_1.1.Device.Unsure.length p_r20_4_8, .bool y_r20_4_1.1.Up, .bool y_r20_4_1.1.Dead]) hk rfl rfl rfl fun a hk => qe hk) fun a hk => ?_
          refine tqst (.int .i64 y_r20_4_1.2) hk rfl rfl rfl rfl (fun w hs => sv (.int .i64 y_r20_4_1.2) hk rfl rfl rfl fun a hk => qe hk) fun a hk => ?_
          refine tsst hk rfl rfl (fun K_r20_9 hK_r20_9 w hF => ?_) wt_stop
          have hs := hs.f hF
          refine ssw 107161 hs rfl rfl hk rfl rfl rfl rfl sz37 (by simp [Value.oneCell']) rfl fun w a hk hs => ?_
          refine se (hs.pick [(6, 6), (5, 5)] rfl) hk (hK_r20_9 _ _ ?_)
          refine tlst hk rfl rfl fun K_r20_10 hK_r20_10 w hF => ?_
          have hs := hs.f hF
          refine sa _ rfl hk rfl rfl rfl fun a hk => ?_
          refine se trivial hk (hK_r20_10 _ _ fun w hF => ?_)
          have hs := hs.f hF
          show R21 _ _
          rw [hR21]
          exact ⟨b_r20_8_1, A_r20_4_3, p_r20_4_4, A_r20_4_7, p_r20_4_8, k_r20_4_5, k_r20_4_9, (hk.c 2 rfl (hk.c 3 rfl (hk.c 6 rfl (hk.c 7 rfl hk.k)))), (hs.pick [(5, 5), (6, 6), (107161, 107161), (107081, 107081), (107082, 107082)] rfl), o_r20_4_6, o_r20_4_10⟩
        refine tsst hk rfl rfl (fun K_r20_8 hK_r20_8 w hF => ?_) wt_stop
        have hs := hs.f hF
        refine salx 107161 hs rfl hk rfl rfl ze37 rfl fun b_r20_8_1 w a hk hs => ?_
        refine se (hs.pick [(6, 6), (5, 5)] rfl) hk (hK_r20_8 _ _ ?_)
        refine tsst hk rfl rfl (fun K_r20_1 hK_r20_1 w hF => ?_) wt_stop
        have hs := hs.f hF
        refine sc rfl en13 hk rfl rfl rfl (laws_toStore_t _ x0 A0_0 p0_0 _ v0_0 (hs.hasD (k := 1) rfl) A0_1 p0_1 _ v0_1 (hs.hasD (k := 2) rfl) _ h_r20_1_2) ?_
        rintro _ w ⟨A_r20_1_3, p_r20_1_4, k_r20_1_5, A_r20_1_7, p_r20_1_8, k_r20_1_9, rfl, o_r20_1_6, o_r20_1_10, hG⟩ a hk
        have hs := hs.call0k hG [107021, 107022] rfl
        refine se (hs.pick [(6, 6), (5, 5)] rfl) hk (hK_r20_1 _ _ ?_)
        refine tsst hk rfl rfl (fun K_r20_3 hK_r20_3 w hF => ?_) wt_stop
        have hs := hs.f hF
        refine sc rfl en30 hk rfl rfl rfl (laws_toDevice_t _ x1 A1_0 p1_0 _ v1_0 (hs.hasD (k := 3) rfl) A1_1 p1_1 _ v1_1 (hs.hasD (k := 4) rfl) _ h_r20_3_2) ?_
        rintro _ w ⟨A_r20_3_3, p_r20_3_4, k_r20_3_5, A_r20_3_7, p_r20_3_8, k_r20_3_9, rfl, o_r20_3_6, o_r20_3_10, hG⟩ a hk
        have hs := hs.call0k hG [107061, 107062] rfl
        refine se (hs.pick [(6, 6), (5, 5)] rfl) hk (hK_r20_3 _ _ ?_)
        refine tsst hk rfl rfl (fun K_r20_4 hK_r20_4 w hF => ?_) wt_stop
        have hs := hs.f hF
        refine sc rfl en41 hk rfl rfl rfl (spec_WithDevice_t _ y_r20_1_1 A_r20_1_3 p_r20_1_4 _ o_r20_1_6.view (hs.hasG (k := 107021) rfl) A_r20_1_7 p_r20_1_8 _ o_r20_1_10.view (hs.hasG (k := 107022) rfl) y_r20_3_1 A_r20_3_3 p_r20_3_4 _ o_r20_3_6.view (hs.hasG (k := 107061) rfl) A_r20_3_7 p_r20_3_8 _ o_r20_3_10.view (hs.hasG (k := 107062) rfl) _ h_r20_4_2) ?_
        rintro _ w ⟨A_r20_4_3, p_r20_4_4, k_r20_4_5, A_r20_4_7, p_r20_4_8, k_r20_4_9, rfl, o_r20_4_6, o_r20_4_10, hG⟩ a hk
        have hs := hs.call0k hG [107081, 107082] rfl
        refine se (hs.pick [(6, 6), (5, 5)] rfl) hk (hK_r20_4 _ _ ?_)
        refine tsst hk rfl rfl (fun K_r20_5 hK_r20_5 w hF => ?_) wt_stop
        have hs := hs.f hF
        refine sm _ rfl hk rfl rfl rfl fun a hk => ?_
        refine se (hs.pick [(6, 6), (5, 5)] rfl) hk (hK_r20_5 _ _ ?_)
        refine tqst (.agg #[.string y_r20_4_1.1.Key, .int .i64 y_r20_4_1.1.Reg.Epoch, .int .i64 y_r20_4_1.1.Reg.Side, .int .i64 y_r20_4_1.1.Reg.Count, .int .i64 y_r20_4_1.1.Reg.Boot, .string y_r20_4_1.1.Reg.Base, .string y_r20_4_1.1.Reg.Tip, .string y_r20_4_1.1.Reg.Root, .slice A_r20_4_3 y_r20_4_1.1.Device.Sure.length p_r20_4_4, .slice A_r20_4_7 y_r20_4_1.1.Device.Unsure.length p_r20_4_8, .bool y_r20_4_1.1.Up, .bool y_r20_4_1.1.Dead]) hk rfl rfl rfl rfl (fun w hs => sv (.agg #[.string y_r20_4_1.1.Key, .int .i64 y_r20_4_1.1.Reg.Epoch, .int .i64 y_r20_4_1.1.Reg.Side, .int .i64 y_r20_4_1.1.Reg.Count, .int .i64 y_r20_4_1.1.Reg.Boot, .string y_r20_4_1.1.Reg.Base, .string y_r20_4_1.1.Reg.Tip, .string y_r20_4_1.1.Reg.Root, .slice A_r20_4_3 y_r20_4_1.1.Device.Sure.length p_r20_4_4, .slice A_r20_4_7 y_r20_4_1.1.Device.Unsure.length p_r20_4_8, .bool y_r20_4_1.1.Up, .bool y_r20_4_1.1.Dead]) hk rfl rfl rfl fun a hk => qe hk) fun a hk => ?_
        refine tqst (.int .i64 y_r20_4_1.2) hk rfl rfl rfl rfl (fun w hs => sv (.int .i64 y_r20_4_1.2) hk rfl rfl rfl fun a hk => qe hk) fun a hk => ?_
        refine tsst hk rfl rfl (fun K_r20_9 hK_r20_9 w hF => ?_) wt_stop
        have hs := hs.f hF
        refine ssw 107161 hs rfl rfl hk rfl rfl rfl rfl sz37 (by simp [Value.oneCell']) rfl fun w a hk hs => ?_
        refine se (hs.pick [(6, 6), (5, 5)] rfl) hk (hK_r20_9 _ _ ?_)
        refine tlst hk rfl rfl fun K_r20_10 hK_r20_10 w hF => ?_
        have hs := hs.f hF
        refine sa _ rfl hk rfl rfl rfl fun a hk => ?_
        refine se trivial hk (hK_r20_10 _ _ fun w hF => ?_)
        have hs := hs.f hF
        show R21 _ _
        rw [hR21]
        exact ⟨b_r20_8_1, A_r20_4_3, p_r20_4_4, A_r20_4_7, p_r20_4_8, k_r20_4_5, k_r20_4_9, (hk.c 2 rfl (hk.c 3 rfl (hk.c 6 rfl (hk.c 7 rfl hk.k)))), (hs.pick [(5, 5), (6, 6), (107161, 107161), (107081, 107081), (107082, 107082)] rfl), o_r20_4_6, o_r20_4_10⟩
      · intro a w hR0
        rw [hR21] at hR0
        obtain ⟨b_r20_8_1, A_r20_4_3, p_r20_4_4, A_r20_4_7, p_r20_4_8, k_r20_4_5, k_r20_4_9, hk, hs, o_r20_4_6, o_r20_4_10⟩ := hR0
        refine hK19 _ _ ?_
        apply wp_seq_k; intro K22 hK22
        apply wp_region_lit
        refine sln [.string x0.Key, .int .i64 x0.Reg.Epoch, .int .i64 x0.Reg.Side, .int .i64 x0.Reg.Count, .int .i64 x0.Reg.Boot, .string x0.Reg.Base, .string x0.Reg.Tip, .string x0.Reg.Root, .slice A0_0 x0.Device.Sure.length p0_0, .slice A0_1 x0.Device.Unsure.length p0_1, .bool x0.Up, .bool x0.Dead] rfl hk rfl rfl rfl ag29 sz29 (box_cells hs (k := 5) rfl) fun a hk => ?_
        obtain ⟨y23, h24, H⟩ := bind_some H
        refine sc rfl en13 hk rfl rfl rfl (laws_toStore_t _ x0 A0_0 p0_0 _ v0_0 (hs.hasD (k := 1) rfl) A0_1 p0_1 _ v0_1 (hs.hasD (k := 2) rfl) _ h24) ?_
        rintro _ w ⟨A25, p26, k27, A29, p30, k31, rfl, o28, o32, hG⟩ a hk
        have hs := hs.call0k hG [8, 9] rfl
        refine salx 10 hs rfl hk rfl rfl ze37 rfl fun b33 w a hk hs => ?_
        refine ssw 10 hs rfl rfl hk rfl rfl rfl rfl sz37 (by simp [Value.oneCell']) rfl fun w a hk hs => ?_
        show wpList _ _ _ [] _ _
        refine wpList_nil ?_
        refine hK22 _ _ ?_
        apply wp_seq_k; intro K34 hK34
        apply wp_region_lit
        refine sln [.slice A1_0 x1.Sure.length p1_0, .slice A1_1 x1.Unsure.length p1_1] rfl hk rfl rfl rfl ag27 sz27 (box_cells hs (k := 6) rfl) fun a hk => ?_
        obtain ⟨y35, h36, H⟩ := bind_some H
        refine sc rfl en30 hk rfl rfl rfl (laws_toDevice_t _ x1 A1_0 p1_0 _ v1_0 (hs.hasD (k := 3) rfl) A1_1 p1_1 _ v1_1 (hs.hasD (k := 4) rfl) _ h36) ?_
        rintro _ w ⟨A37, p38, k39, A41, p42, k43, rfl, o40, o44, hG⟩ a hk
        have hs := hs.call0k hG [11, 12] rfl
        refine salx 13 hs rfl hk rfl rfl ze35 rfl fun b45 w a hk hs => ?_
        refine ssw 13 hs rfl rfl hk rfl rfl rfl rfl sz35 (by simp [Value.oneCell']) rfl fun w a hk hs => ?_
        show wpList _ _ _ [] _ _
        refine wpList_nil ?_
        refine hK34 _ _ ?_
        apply wp_seq_k; intro K46 hK46
        apply wp_region_lit
        refine sln [.string y23.Key, .int .i64 y23.Reg.Epoch, .int .i64 y23.Reg.Side, .int .i64 y23.Reg.Count, .int .i64 y23.Reg.Boot, .string y23.Reg.Base, .string y23.Reg.Tip, .string y23.Reg.Root, .slice A25 y23.Device.Sure.length p26, .slice A29 y23.Device.Unsure.length p30, .bool y23.Up, .bool y23.Dead] rfl hk rfl rfl rfl ag37 sz37 (box_cells hs (k := 10) rfl) fun a hk => ?_
        refine sln [.slice A37 y35.Sure.length p38, .slice A41 y35.Unsure.length p42] rfl hk rfl rfl rfl ag35 sz35 (box_cells hs (k := 13) rfl) fun a hk => ?_
        obtain ⟨y47, h48, H⟩ := bind_some H
        refine sc rfl en42 hk rfl rfl rfl (impl_WithDevice_t _ y23 A25 p26 _ o28.view (hs.hasG (k := 8) rfl) A29 p30 _ o32.view (hs.hasG (k := 9) rfl) y35 A37 p38 _ o40.view (hs.hasG (k := 11) rfl) A41 p42 _ o44.view (hs.hasG (k := 12) rfl) _ h48) ?_
        rintro _ w ⟨A49, p50, k51, A53, p54, k55, rfl, o52, o56, hG⟩ a hk
        have hs := hs.call0k hG [14, 15] rfl
        refine sm _ rfl hk rfl rfl rfl fun a hk => ?_
        refine sv (.agg #[.string y47.1.Key, .int .i64 y47.1.Reg.Epoch, .int .i64 y47.1.Reg.Side, .int .i64 y47.1.Reg.Count, .int .i64 y47.1.Reg.Boot, .string y47.1.Reg.Base, .string y47.1.Reg.Tip, .string y47.1.Reg.Root, .slice A49 y47.1.Device.Sure.length p50, .slice A53 y47.1.Device.Unsure.length p54, .bool y47.1.Up, .bool y47.1.Dead]) hk rfl rfl rfl fun a hk => ?_
        refine sv (.int .i64 y47.2) hk rfl rfl rfl fun a hk => ?_
        refine salx 16 hs rfl hk rfl rfl ze37 rfl fun b57 w a hk hs => ?_
        refine ssw 16 hs rfl rfl hk rfl rfl rfl rfl sz37 (by simp [Value.oneCell']) rfl fun w a hk hs => ?_
        refine sa _ rfl hk rfl rfl rfl fun a hk => ?_
        show wpList _ _ _ [] _ _
        refine wpList_nil ?_
        refine hK46 _ _ ?_
        apply wp_seq_k; intro K58 hK58
        apply wp_seq_k; intro K59 hK59
        obtain ⟨o62, h63, HL64⟩ := bind_some H
        clear H
        obtain ⟨R65, hR65⟩ : ∃ R : Act → World → Prop, R = fun a w => ∃ (u61 : Bool), u61 = o62 ∧ Kn [(2, (.pointer (some ⟨b2, 0, none⟩))), (3, (.pointer (some ⟨b3, 0, none⟩))), (6, (.pointer (some ⟨b_r20_8_1, 0, none⟩))), (7, (.int .i64 y_r20_4_1.2)), (8, (.pointer (some ⟨b33, 0, none⟩))), (9, (.pointer (some ⟨b45, 0, none⟩))), (10, (.pointer (some ⟨b57, 0, none⟩))), (11, (.int .i64 y47.2)), (53, (.bool u61))] 119 a ∧ Sat [] w0 w [(1, k0_0), (2, k0_1), (3, k1_0), (4, k1_1)] [(5, [(b2, .cells #[.string x0.Key, .int .i64 x0.Reg.Epoch, .int .i64 x0.Reg.Side, .int .i64 x0.Reg.Count, .int .i64 x0.Reg.Boot, .string x0.Reg.Base, .string x0.Reg.Tip, .string x0.Reg.Root, .slice A0_0 x0.Device.Sure.length p0_0, .slice A0_1 x0.Device.Unsure.length p0_1, .bool x0.Up, .bool x0.Dead] 29 (0, 0))]), (6, [(b3, .cells #[.slice A1_0 x1.Sure.length p1_0, .slice A1_1 x1.Unsure.length p1_1] 27 (0, 0))]), (10, [(b33, .cells #[.string y23.Key, .int .i64 y23.Reg.Epoch, .int .i64 y23.Reg.Side, .int .i64 y23.Reg.Count, .int .i64 y23.Reg.Boot, .string y23.Reg.Base, .string y23.Reg.Tip, .string y23.Reg.Root, .slice A25 y23.Device.Sure.length p26, .slice A29 y23.Device.Unsure.length p30, .bool y23.Up, .bool y23.Dead] 37 (0, 0))]), (8, k27), (9, k31), (13, [(b45, .cells #[.slice A37 y35.Sure.length p38, .slice A41 y35.Unsure.length p42] 35 (0, 0))]), (11, k39), (12, k43), (16, [(b57, .cells #[.string y47.1.Key, .int .i64 y47.1.Reg.Epoch, .int .i64 y47.1.Reg.Side, .int .i64 y47.1.Reg.Count, .int .i64 y47.1.Reg.Boot, .string y47.1.Reg.Base, .string y47.1.Reg.Tip, .string y47.1.Reg.Root, .slice A49 y47.1.Device.Sure.length p50, .slice A53 y47.1.Device.Unsure.length p54, .bool y47.1.Up, .bool y47.1.Dead] 37 (0, 0))]), (14, k51), (15, k55), (107161, [(b_r20_8_1, .cells #[.string y_r20_4_1.1.Key, .int .i64 y_r20_4_1.1.Reg.Epoch, .int .i64 y_r20_4_1.1.Reg.Side, .int .i64 y_r20_4_1.1.Reg.Count, .int .i64 y_r20_4_1.1.Reg.Boot, .string y_r20_4_1.1.Reg.Base, .string y_r20_4_1.1.Reg.Tip, .string y_r20_4_1.1.Reg.Root, .slice A_r20_4_3 y_r20_4_1.1.Device.Sure.length p_r20_4_4, .slice A_r20_4_7 y_r20_4_1.1.Device.Unsure.length p_r20_4_8, .bool y_r20_4_1.1.Up, .bool y_r20_4_1.1.Dead] 37 (0, 0))]), (107081, k_r20_4_5), (107082, k_r20_4_9)] := ⟨_, rfl⟩
        refine wp_cutq R65 ?_ ?_
        · have H := h63
          apply wp_region_lit
          refine sln [.string y47.1.Key, .int .i64 y47.1.Reg.Epoch, .int .i64 y47.1.Reg.Side, .int .i64 y47.1.Reg.Count, .int .i64 y47.1.Reg.Boot, .string y47.1.Reg.Base, .string y47.1.Reg.Tip, .string y47.1.Reg.Root, .slice A49 y47.1.Device.Sure.length p50, .slice A53 y47.1.Device.Unsure.length p54, .bool y47.1.Up, .bool y47.1.Dead] rfl hk rfl rfl rfl ag37 sz37 (box_cells hs (k := 16) rfl) fun a hk => ?_
          refine sln [.string y_r20_4_1.1.Key, .int .i64 y_r20_4_1.1.Reg.Epoch, .int .i64 y_r20_4_1.1.Reg.Side, .int .i64 y_r20_4_1.1.Reg.Count, .int .i64 y_r20_4_1.1.Reg.Boot, .string y_r20_4_1.1.Reg.Base, .string y_r20_4_1.1.Reg.Tip, .string y_r20_4_1.1.Reg.Root, .slice A_r20_4_3 y_r20_4_1.1.Device.Sure.length p_r20_4_4, .slice A_r20_4_7 y_r20_4_1.1.Device.Unsure.length p_r20_4_8, .bool y_r20_4_1.1.Up, .bool y_r20_4_1.1.Dead] rfl hk rfl rfl rfl ag37 sz37 (box_cells hs (k := 107161) rfl) fun a hk => ?_
          obtain ⟨y66, h67, H⟩ := bind_some H
          refine sc rfl en15 hk rfl rfl rfl (laws_eqStore_t _ y47.1 A49 p50 _ o52.view (hs.hasG (k := 14) rfl) A53 p54 _ o56.view (hs.hasG (k := 15) rfl) (⟨y_r20_4_1.1.Key, y_r20_4_1.1.Reg, (⟨y_r20_4_1.1.Device.Sure, y_r20_4_1.1.Device.Unsure⟩ : S_Device), y_r20_4_1.1.Up, y_r20_4_1.1.Dead⟩ : S_Store) A_r20_4_3 p_r20_4_4 _ o_r20_4_6.view (hs.hasG (k := 107081) rfl) A_r20_4_7 p_r20_4_8 _ o_r20_4_10.view (hs.hasG (k := 107082) rfl) _ h67) ?_
          rintro _ w ⟨rfl, hG⟩ a hk
          have hs := hs.call0 hG
          refine sv (.bool (!y66)) hk rfl rfl rfl fun a hk => ?_
          refine sm _ rfl hk rfl rfl rfl fun a hk => ?_
          rcases cond_some H with ⟨c68, H⟩ | ⟨c68, H⟩
          · have hk := hk.lit 49 c68 rfl
            refine sk hk rfl rfl rfl fun a hk => ?_
            refine sk hk rfl rfl rfl fun a hk => ?_
            refine sk hk rfl rfl rfl fun a hk => ?_
            refine sv (.bool true) hk rfl rfl rfl fun a hk => ?_
            show wpList _ _ _ [] _ _
            refine wpList_nil ?_
            obtain rfl := Option.some.inj H
            show R65 _ _
            rw [hR65]
            exact ⟨true, rfl, (hk.c 2 rfl (hk.c 3 rfl (hk.c 6 rfl (hk.c 7 rfl (hk.c 8 rfl (hk.c 9 rfl (hk.c 10 rfl (hk.c 11 rfl (hk.c 53 rfl hk.k))))))))), (hs.pick [(5, 5), (6, 6), (10, 10), (8, 8), (9, 9), (13, 13), (11, 11), (12, 12), (16, 16), (14, 14), (15, 15), (107161, 107161), (107081, 107081), (107082, 107082)] rfl)⟩
          · have hk := hk.lit 49 c68 rfl
            refine sm _ rfl hk rfl rfl rfl fun a hk => ?_
            refine sm _ rfl hk rfl rfl rfl fun a hk => ?_
            refine sv (.bool (y47.2 != y_r20_4_1.2)) hk rfl rfl rfl fun a hk => ?_
            refine sv (.bool (y47.2 != y_r20_4_1.2)) hk rfl rfl rfl fun a hk => ?_
            show wpList _ _ _ [] _ _
            refine wpList_nil ?_
            obtain rfl := Option.some.inj H
            show R65 _ _
            rw [hR65]
            exact ⟨(y47.2 != y_r20_4_1.2), rfl, (hk.c 2 rfl (hk.c 3 rfl (hk.c 6 rfl (hk.c 7 rfl (hk.c 8 rfl (hk.c 9 rfl (hk.c 10 rfl (hk.c 11 rfl (hk.c 53 rfl hk.k))))))))), (hs.pick [(5, 5), (6, 6), (10, 10), (8, 8), (9, 9), (13, 13), (11, 11), (12, 12), (16, 16), (14, 14), (15, 15), (107161, 107161), (107081, 107081), (107082, 107082)] rfl)⟩
        · intro a w hR0
          rw [hR65] at hR0
          obtain ⟨u61, rfl, hk, hs⟩ := hR0
          have H := HL64
          try dsimp only at H
          refine hK59 _ _ ?_
          rcases cond_some H with ⟨c69, H⟩ | ⟨c69, H⟩
          · have hk := hk.lit 53 c69 rfl
            refine cnd_true hk rfl rfl ?_
            apply wp_seq_k; intro K70 hK70
            apply wp_region_lit
            refine sa _ rfl hk rfl rfl rfl fun a hk => ?_
            show wpList _ _ _ [] _ _
            refine wpList_nil ?_
            refine hK70 _ _ ?_
            refine wp_ret ?_
            obtain rfl := Option.some.inj H
            exact fin hk _ [(.bool false)] rfl ⟨rfl, trivial⟩ ⟨rfl, (hs.pick [] rfl).dnil⟩
          · have hk := hk.lit 53 c69 rfl
            refine cnd_false hk rfl rfl ?_
            refine wp_skip ?_
            refine hK58 _ _ ?_
            apply wp_seq_k; intro K71 hK71
            apply wp_seq_k; intro K72 hK72
            refine wp_region_tree (.q 0 (.alt 1 (.alt 2 (.alt 3 (.alt 4 .done .stop) .stop) .stop) .stop)) mo (by kernel_rfl) (hs.pick [(5, 5), (6, 6), (10, 10), (8, 8), (9, 9), (13, 13), (11, 11), (12, 12), (16, 16), (14, 14), (15, 15), (107161, 107161), (107081, 107081), (107082, 107082)] rfl) fun _ => ?_
            have hs := hs.drew
            refine tqst (.agg #[.string y23.Key, .int .i64 y23.Reg.Epoch, .int .i64 y23.Reg.Side, .int .i64 y23.Reg.Count, .int .i64 y23.Reg.Boot, .string y23.Reg.Base, .string y23.Reg.Tip, .string y23.Reg.Root, .slice A25 y23.Device.Sure.length p26, .slice A29 y23.Device.Unsure.length p30, .bool y23.Up, .bool y23.Dead]) hk rfl rfl rfl rfl (fun w hs => sln [.string y23.Key, .int .i64 y23.Reg.Epoch, .int .i64 y23.Reg.Side, .int .i64 y23.Reg.Count, .int .i64 y23.Reg.Boot, .string y23.Reg.Base, .string y23.Reg.Tip, .string y23.Reg.Root, .slice A25 y23.Device.Sure.length p26, .slice A29 y23.Device.Unsure.length p30, .bool y23.Up, .bool y23.Dead] rfl hk rfl rfl rfl ag37 sz37 (box_cells hs (k := 10) rfl) fun a hk => qe hk) fun a hk => ?_
            refine tsst hk rfl rfl (fun K_r73_1 hK_r73_1 w hF => ?_) wt_stop
            have hs := hs.f hF
            refine sln [.string x0.Key, .int .i64 x0.Reg.Epoch, .int .i64 x0.Reg.Side, .int .i64 x0.Reg.Count, .int .i64 x0.Reg.Boot, .string x0.Reg.Base, .string x0.Reg.Tip, .string x0.Reg.Root, .slice A0_0 x0.Device.Sure.length p0_0, .slice A0_1 x0.Device.Unsure.length p0_1, .bool x0.Up, .bool x0.Dead] rfl hk rfl rfl rfl ag29 sz29 (box_cells hs (k := 5) rfl) fun a hk => ?_
            refine se (hs.pick [(5, 5), (6, 6), (10, 10), (8, 8), (9, 9), (13, 13), (11, 11), (12, 12), (16, 16), (14, 14), (15, 15), (107161, 107161), (107081, 107081), (107082, 107082)] rfl) hk (hK_r73_1 _ _ ?_)
            refine tsst hk rfl rfl (fun K_r73_2 hK_r73_2 w hF => ?_) wt_stop
            have hs := hs.f hF
            obtain ⟨y74, h75, H⟩ := bind_some H
            refine sc rfl en13 hk rfl rfl rfl (laws_toStore_t _ x0 A0_0 p0_0 _ v0_0 (hs.hasD (k := 1) rfl) A0_1 p0_1 _ v0_1 (hs.hasD (k := 2) rfl) _ h75) ?_
            rintro _ w ⟨A76, p77, k78, A80, p81, k82, rfl, o79, o83, hG⟩ a hk
            have hs := hs.call0k hG [19, 20] rfl
            refine se (hs.pick [(5, 5), (6, 6), (10, 10), (8, 8), (9, 9), (13, 13), (11, 11), (12, 12), (16, 16), (14, 14), (15, 15), (107161, 107161), (107081, 107081), (107082, 107082)] rfl) hk (hK_r73_2 _ _ ?_)
            refine tsst hk rfl rfl (fun K_r73_3 hK_r73_3 w hF => ?_) wt_stop
            have hs := hs.f hF
            obtain ⟨y84, h85, H⟩ := bind_some H
            refine sc rfl en15 hk rfl rfl rfl (laws_eqStore_t _ y23 A25 p26 _ o28.view (hs.hasG (k := 8) rfl) A29 p30 _ o32.view (hs.hasG (k := 9) rfl) y74 A76 p77 _ o79.view (hs.hasG (k := 19) rfl) A80 p81 _ o83.view (hs.hasG (k := 20) rfl) _ h85) ?_
            rintro _ w ⟨rfl, hG⟩ a hk
            have hs := hs.call0 hG
            refine se (hs.pick [(5, 5), (6, 6), (10, 10), (8, 8), (9, 9), (13, 13), (11, 11), (12, 12), (16, 16), (14, 14), (15, 15), (107161, 107161), (107081, 107081), (107082, 107082)] rfl) hk (hK_r73_3 _ _ ?_)
            refine tsst hk rfl rfl (fun K_r73_4 hK_r73_4 w hF => ?_) wt_stop
            have hs := hs.f hF
            refine sv (.bool (!y84)) hk rfl rfl rfl fun a hk => ?_
            refine se (hs.pick [(5, 5), (6, 6), (10, 10), (8, 8), (9, 9), (13, 13), (11, 11), (12, 12), (16, 16), (14, 14), (15, 15), (107161, 107161), (107081, 107081), (107082, 107082)] rfl) hk (hK_r73_4 _ _ ?_)
            refine wtl_nil fun w hF _ => ?_
            have hs := hs.f hF
            refine hK72 _ _ ?_
            rcases cond_some H with ⟨c86, H⟩ | ⟨c86, H⟩
            · have hk := hk.lit 58 c86 rfl
              refine cnd_true hk rfl rfl ?_
              apply wp_seq_k; intro K87 hK87
              apply wp_region_lit
              refine sa _ rfl hk rfl rfl rfl fun a hk => ?_
              show wpList _ _ _ [] _ _
              refine wpList_nil ?_
              refine hK87 _ _ ?_
              refine wp_ret ?_
              obtain rfl := Option.some.inj H
              exact fin hk _ [(.bool false)] rfl ⟨rfl, trivial⟩ ⟨rfl, (hs.pick [] rfl).dnil⟩
            · have hk := hk.lit 58 c86 rfl
              refine cnd_false hk rfl rfl ?_
              refine wp_skip ?_
              refine hK71 _ _ ?_
              apply wp_seq_k; intro K88 hK88
              apply wp_seq_k; intro K89 hK89
              refine wp_region_tree (.q 0 (.alt 1 (.alt 2 (.alt 3 (.alt 4 .done .stop) .stop) .stop) .stop)) mo (by kernel_rfl) (hs.pick [(20, 20), (19, 19), (5, 5), (6, 6), (10, 10), (8, 8), (9, 9), (13, 13), (11, 11), (12, 12), (16, 16), (14, 14), (15, 15), (107161, 107161), (107081, 107081), (107082, 107082)] rfl) fun _ => ?_
              have hs := hs.drew
              refine tqst (.agg #[.slice A37 y35.Sure.length p38, .slice A41 y35.Unsure.length p42]) hk rfl rfl rfl rfl (fun w hs => sln [.slice A37 y35.Sure.length p38, .slice A41 y35.Unsure.length p42] rfl hk rfl rfl rfl ag35 sz35 (box_cells hs (k := 13) rfl) fun a hk => qe hk) fun a hk => ?_
              refine tsst hk rfl rfl (fun K_r90_1 hK_r90_1 w hF => ?_) wt_stop
              have hs := hs.f hF
              refine sln [.slice A1_0 x1.Sure.length p1_0, .slice A1_1 x1.Unsure.length p1_1] rfl hk rfl rfl rfl ag27 sz27 (box_cells hs (k := 6) rfl) fun a hk => ?_
              refine se (hs.pick [(20, 20), (19, 19), (5, 5), (6, 6), (10, 10), (8, 8), (9, 9), (13, 13), (11, 11), (12, 12), (16, 16), (14, 14), (15, 15), (107161, 107161), (107081, 107081), (107082, 107082)] rfl) hk (hK_r90_1 _ _ ?_)
              refine tsst hk rfl rfl (fun K_r90_2 hK_r90_2 w hF => ?_) wt_stop
              have hs := hs.f hF
              obtain ⟨y91, h92, H⟩ := bind_some H
              refine sc rfl en30 hk rfl rfl rfl (laws_toDevice_t _ x1 A1_0 p1_0 _ v1_0 (hs.hasD (k := 3) rfl) A1_1 p1_1 _ v1_1 (hs.hasD (k := 4) rfl) _ h92) ?_
              rintro _ w ⟨A93, p94, k95, A97, p98, k99, rfl, o96, o100, hG⟩ a hk
              have hs := hs.call0k hG [22, 23] rfl
              refine se (hs.pick [(20, 20), (19, 19), (5, 5), (6, 6), (10, 10), (8, 8), (9, 9), (13, 13), (11, 11), (12, 12), (16, 16), (14, 14), (15, 15), (107161, 107161), (107081, 107081), (107082, 107082)] rfl) hk (hK_r90_2 _ _ ?_)
              refine tsst hk rfl rfl (fun K_r90_3 hK_r90_3 w hF => ?_) wt_stop
              have hs := hs.f hF
              obtain ⟨y101, h102, H⟩ := bind_some H
              refine sc rfl en32 hk rfl rfl rfl (laws_eqDevice_t _ y35 A37 p38 _ o40.view (hs.hasG (k := 11) rfl) A41 p42 _ o44.view (hs.hasG (k := 12) rfl) y91 A93 p94 _ o96.view (hs.hasG (k := 22) rfl) A97 p98 _ o100.view (hs.hasG (k := 23) rfl) _ h102) ?_
              rintro _ w ⟨rfl, hG⟩ a hk
              have hs := hs.call0 hG
              refine se (hs.pick [(20, 20), (19, 19), (5, 5), (6, 6), (10, 10), (8, 8), (9, 9), (13, 13), (11, 11), (12, 12), (16, 16), (14, 14), (15, 15), (107161, 107161), (107081, 107081), (107082, 107082)] rfl) hk (hK_r90_3 _ _ ?_)
              refine tsst hk rfl rfl (fun K_r90_4 hK_r90_4 w hF => ?_) wt_stop
              have hs := hs.f hF
              refine sv (.bool (!y101)) hk rfl rfl rfl fun a hk => ?_
              refine se (hs.pick [(20, 20), (19, 19), (5, 5), (6, 6), (10, 10), (8, 8), (9, 9), (13, 13), (11, 11), (12, 12), (16, 16), (14, 14), (15, 15), (107161, 107161), (107081, 107081), (107082, 107082)] rfl) hk (hK_r90_4 _ _ ?_)
              refine wtl_nil fun w hF _ => ?_
              have hs := hs.f hF
              refine hK89 _ _ ?_
              rcases cond_some H with ⟨c103, H⟩ | ⟨c103, H⟩
              · have hk := hk.lit 63 c103 rfl
                refine cnd_true hk rfl rfl ?_
                apply wp_seq_k; intro K104 hK104
                apply wp_region_lit
                refine sa _ rfl hk rfl rfl rfl fun a hk => ?_
                show wpList _ _ _ [] _ _
                refine wpList_nil ?_
                refine hK104 _ _ ?_
                refine wp_ret ?_
                obtain rfl := Option.some.inj H
                exact fin hk _ [(.bool false)] rfl ⟨rfl, trivial⟩ ⟨rfl, (hs.pick [] rfl).dnil⟩
              · have hk := hk.lit 63 c103 rfl
                refine cnd_false hk rfl rfl ?_
                refine wp_skip ?_
                refine hK88 _ _ ?_
                apply wp_seq_k; intro K105 hK105
                apply wp_region_lit
                refine sa _ rfl hk rfl rfl rfl fun a hk => ?_
                show wpList _ _ _ [] _ _
                refine wpList_nil ?_
                refine hK105 _ _ ?_
                apply wp_seq_k; intro K106 hK106
                apply wp_region_lit
                refine sln [.string y23.Key, .int .i64 y23.Reg.Epoch, .int .i64 y23.Reg.Side, .int .i64 y23.Reg.Count, .int .i64 y23.Reg.Boot, .string y23.Reg.Base, .string y23.Reg.Tip, .string y23.Reg.Root, .slice A25 y23.Device.Sure.length p26, .slice A29 y23.Device.Unsure.length p30, .bool y23.Up, .bool y23.Dead] rfl hk rfl rfl rfl ag37 sz37 (box_cells hs (k := 10) rfl) fun a hk => ?_
                refine sm _ rfl hk rfl rfl rfl fun a hk => ?_
                obtain ⟨y107, h108, H⟩ := bind_some H
                refine sc rfl en39 hk rfl rfl rfl (laws_markStore_t _ y23 A25 p26 _ o28 A29 p30 _ o32 1 ((hs.hand [(1, 8), (2, 9)] rfl).dpick [] rfl) _ h108) ?_
                rintro _ w ⟨k109, k112, rfl, ⟨o110, lh111⟩, ⟨o113, lh114⟩, hG⟩ a hk
                have hs := hs.back [(1, 8), (2, 9)] rfl hG [8, 9] rfl
                have lh115 : y107.2.1.length = y23.Device.Sure.length := lh111
                have lh116 : y107.2.2.length = y23.Device.Unsure.length := lh114
                refine sa _ rfl hk rfl rfl rfl fun a hk => ?_
                show wpList _ _ _ [] _ _
                refine wpList_nil ?_
                refine hK106 _ _ ?_
                apply wp_seq_k; intro K117 hK117
                apply wp_region_lit
                refine sln [.slice A37 y35.Sure.length p38, .slice A41 y35.Unsure.length p42] rfl hk rfl rfl rfl ag35 sz35 (box_cells hs (k := 13) rfl) fun a hk => ?_
                refine sm _ rfl hk rfl rfl rfl fun a hk => ?_
                obtain ⟨y118, h119, H⟩ := bind_some H
                refine sc rfl en33 hk rfl rfl rfl (laws_markDevice_t _ y35 A37 p38 _ o40 A41 p42 _ o44 y107.1 ((hs.hand [(1, 11), (2, 12)] rfl).dpick [] rfl) _ h119) ?_
                rintro _ w ⟨k120, k123, rfl, ⟨o121, lh122⟩, ⟨o124, lh125⟩, hG⟩ a hk
                have hs := hs.back [(1, 11), (2, 12)] rfl hG [11, 12] rfl
                have lh126 : y118.2.1.length = y35.Sure.length := lh122
                have lh127 : y118.2.2.length = y35.Unsure.length := lh125
                refine sa _ rfl hk rfl rfl rfl fun a hk => ?_
                show wpList _ _ _ [] _ _
                refine wpList_nil ?_
                refine hK117 _ _ ?_
                apply wp_seq_k; intro K128 hK128
                apply wp_seq_k; intro K129 hK129
                obtain ⟨o132, h133, HL134⟩ := bind_some H
                clear H
                obtain ⟨R135, hR135⟩ : ∃ R : Act → World → Prop, R = fun a w => ∃ (u131 : Bool), u131 = o132 ∧ Kn [(2, (.pointer (some ⟨b2, 0, none⟩))), (3, (.pointer (some ⟨b3, 0, none⟩))), (6, (.pointer (some ⟨b_r20_8_1, 0, none⟩))), (7, (.int .i64 y_r20_4_1.2)), (10, (.pointer (some ⟨b57, 0, none⟩))), (82, (.bool u131))] 119 a ∧ Sat [] w0 w [(1, k0_0), (2, k0_1), (3, k1_0), (4, k1_1)] [(5, [(b2, .cells #[.string x0.Key, .int .i64 x0.Reg.Epoch, .int .i64 x0.Reg.Side, .int .i64 x0.Reg.Count, .int .i64 x0.Reg.Boot, .string x0.Reg.Base, .string x0.Reg.Tip, .string x0.Reg.Root, .slice A0_0 x0.Device.Sure.length p0_0, .slice A0_1 x0.Device.Unsure.length p0_1, .bool x0.Up, .bool x0.Dead] 29 (0, 0))]), (6, [(b3, .cells #[.slice A1_0 x1.Sure.length p1_0, .slice A1_1 x1.Unsure.length p1_1] 27 (0, 0))]), (16, [(b57, .cells #[.string y47.1.Key, .int .i64 y47.1.Reg.Epoch, .int .i64 y47.1.Reg.Side, .int .i64 y47.1.Reg.Count, .int .i64 y47.1.Reg.Boot, .string y47.1.Reg.Base, .string y47.1.Reg.Tip, .string y47.1.Reg.Root, .slice A49 y47.1.Device.Sure.length p50, .slice A53 y47.1.Device.Unsure.length p54, .bool y47.1.Up, .bool y47.1.Dead] 37 (0, 0))]), (14, k51), (15, k55), (107161, [(b_r20_8_1, .cells #[.string y_r20_4_1.1.Key, .int .i64 y_r20_4_1.1.Reg.Epoch, .int .i64 y_r20_4_1.1.Reg.Side, .int .i64 y_r20_4_1.1.Reg.Count, .int .i64 y_r20_4_1.1.Reg.Boot, .string y_r20_4_1.1.Reg.Base, .string y_r20_4_1.1.Reg.Tip, .string y_r20_4_1.1.Reg.Root, .slice A_r20_4_3 y_r20_4_1.1.Device.Sure.length p_r20_4_4, .slice A_r20_4_7 y_r20_4_1.1.Device.Unsure.length p_r20_4_8, .bool y_r20_4_1.1.Up, .bool y_r20_4_1.1.Dead] 37 (0, 0))]), (107081, k_r20_4_5), (107082, k_r20_4_9)] := ⟨_, rfl⟩
                refine wp_cutq R135 ?_ ?_
                · have H := h133
                  apply wp_region_lit
                  refine sm _ rfl hk rfl rfl rfl fun a hk => ?_
                  refine sv (.bool (decide (y118.1 < 0))) hk rfl rfl rfl fun a hk => ?_
                  refine sm _ rfl hk rfl rfl rfl fun a hk => ?_
                  rcases cond_some H with ⟨c136, H⟩ | ⟨c136, H⟩
                  · have hk := hk.lit 72 c136 rfl
                    refine sk hk rfl rfl rfl fun a hk => ?_
                    refine sk hk rfl rfl rfl fun a hk => ?_
                    refine sk hk rfl rfl rfl fun a hk => ?_
                    refine sk hk rfl rfl rfl fun a hk => ?_
                    refine sv (.bool true) hk rfl rfl rfl fun a hk => ?_
                    refine sm _ rfl hk rfl rfl rfl fun a hk => ?_
                    refine sk hk rfl rfl rfl fun a hk => ?_
                    refine sk hk rfl rfl rfl fun a hk => ?_
                    refine sk hk rfl rfl rfl fun a hk => ?_
                    refine sv (.bool true) hk rfl rfl rfl fun a hk => ?_
                    show wpList _ _ _ [] _ _
                    refine wpList_nil ?_
                    obtain rfl := Option.some.inj H
                    show R135 _ _
                    rw [hR135]
                    exact ⟨true, rfl, (hk.c 2 rfl (hk.c 3 rfl (hk.c 6 rfl (hk.c 7 rfl (hk.c 10 rfl (hk.c 82 rfl hk.k)))))), (hs.pick [(5, 5), (6, 6), (16, 16), (14, 14), (15, 15), (107161, 107161), (107081, 107081), (107082, 107082)] rfl)⟩
                  · have hk := hk.lit 72 c136 rfl
                    refine sln [.string y47.1.Key, .int .i64 y47.1.Reg.Epoch, .int .i64 y47.1.Reg.Side, .int .i64 y47.1.Reg.Count, .int .i64 y47.1.Reg.Boot, .string y47.1.Reg.Base, .string y47.1.Reg.Tip, .string y47.1.Reg.Root, .slice A49 y47.1.Device.Sure.length p50, .slice A53 y47.1.Device.Unsure.length p54, .bool y47.1.Up, .bool y47.1.Dead] rfl hk rfl rfl rfl ag37 sz37 (box_cells hs (k := 16) rfl) fun a hk => ?_
                    refine sln [.string y_r20_4_1.1.Key, .int .i64 y_r20_4_1.1.Reg.Epoch, .int .i64 y_r20_4_1.1.Reg.Side, .int .i64 y_r20_4_1.1.Reg.Count, .int .i64 y_r20_4_1.1.Reg.Boot, .string y_r20_4_1.1.Reg.Base, .string y_r20_4_1.1.Reg.Tip, .string y_r20_4_1.1.Reg.Root, .slice A_r20_4_3 y_r20_4_1.1.Device.Sure.length p_r20_4_4, .slice A_r20_4_7 y_r20_4_1.1.Device.Unsure.length p_r20_4_8, .bool y_r20_4_1.1.Up, .bool y_r20_4_1.1.Dead] rfl hk rfl rfl rfl ag37 sz37 (box_cells hs (k := 107161) rfl) fun a hk => ?_
                    obtain ⟨y137, h138, H⟩ := bind_some H
                    refine sc rfl en15 hk rfl rfl rfl (laws_eqStore_t _ y47.1 A49 p50 _ o52.view (hs.hasG (k := 14) rfl) A53 p54 _ o56.view (hs.hasG (k := 15) rfl) (⟨y_r20_4_1.1.Key, y_r20_4_1.1.Reg, (⟨y_r20_4_1.1.Device.Sure, y_r20_4_1.1.Device.Unsure⟩ : S_Device), y_r20_4_1.1.Up, y_r20_4_1.1.Dead⟩ : S_Store) A_r20_4_3 p_r20_4_4 _ o_r20_4_6.view (hs.hasG (k := 107081) rfl) A_r20_4_7 p_r20_4_8 _ o_r20_4_10.view (hs.hasG (k := 107082) rfl) _ h138) ?_
                    rintro _ w ⟨rfl, hG⟩ a hk
                    have hs := hs.call0 hG
                    refine sv (.bool (!y137)) hk rfl rfl rfl fun a hk => ?_
                    refine sv (.bool (!y137)) hk rfl rfl rfl fun a hk => ?_
                    refine sm _ rfl hk rfl rfl rfl fun a hk => ?_
                    rcases cond_some H with ⟨c139, H⟩ | ⟨c139, H⟩
                    · have hk := hk.lit 78 c139 rfl
                      refine sk hk rfl rfl rfl fun a hk => ?_
                      refine sk hk rfl rfl rfl fun a hk => ?_
                      refine sk hk rfl rfl rfl fun a hk => ?_
                      refine sv (.bool true) hk rfl rfl rfl fun a hk => ?_
                      show wpList _ _ _ [] _ _
                      refine wpList_nil ?_
                      obtain rfl := Option.some.inj H
                      show R135 _ _
                      rw [hR135]
                      exact ⟨true, rfl, (hk.c 2 rfl (hk.c 3 rfl (hk.c 6 rfl (hk.c 7 rfl (hk.c 10 rfl (hk.c 82 rfl hk.k)))))), (hs.pick [(5, 5), (6, 6), (16, 16), (14, 14), (15, 15), (107161, 107161), (107081, 107081), (107082, 107082)] rfl)⟩
                    · have hk := hk.lit 78 c139 rfl
                      refine sm _ rfl hk rfl rfl rfl fun a hk => ?_
                      refine sm _ rfl hk rfl rfl rfl fun a hk => ?_
                      refine sv (.bool (y47.2 != y_r20_4_1.2)) hk rfl rfl rfl fun a hk => ?_
                      refine sv (.bool (y47.2 != y_r20_4_1.2)) hk rfl rfl rfl fun a hk => ?_
                      show wpList _ _ _ [] _ _
                      refine wpList_nil ?_
                      obtain rfl := Option.some.inj H
                      show R135 _ _
                      rw [hR135]
                      exact ⟨(y47.2 != y_r20_4_1.2), rfl, (hk.c 2 rfl (hk.c 3 rfl (hk.c 6 rfl (hk.c 7 rfl (hk.c 10 rfl (hk.c 82 rfl hk.k)))))), (hs.pick [(5, 5), (6, 6), (16, 16), (14, 14), (15, 15), (107161, 107161), (107081, 107081), (107082, 107082)] rfl)⟩
                · intro a w hR0
                  rw [hR135] at hR0
                  obtain ⟨u131, rfl, hk, hs⟩ := hR0
                  have H := HL134
                  try dsimp only at H
                  refine hK129 _ _ ?_
                  rcases cond_some H with ⟨c140, H⟩ | ⟨c140, H⟩
                  · have hk := hk.lit 82 c140 rfl
                    refine cnd_true hk rfl rfl ?_
                    apply wp_seq_k; intro K141 hK141
                    apply wp_region_lit
                    refine sa _ rfl hk rfl rfl rfl fun a hk => ?_
                    show wpList _ _ _ [] _ _
                    refine wpList_nil ?_
                    refine hK141 _ _ ?_
                    refine wp_ret ?_
                    obtain rfl := Option.some.inj H
                    exact fin hk _ [(.bool false)] rfl ⟨rfl, trivial⟩ ⟨rfl, (hs.pick [] rfl).dnil⟩
                  · have hk := hk.lit 82 c140 rfl
                    refine cnd_false hk rfl rfl ?_
                    refine wp_skip ?_
                    refine hK128 _ _ ?_
                    apply wp_seq_k; intro K142 hK142
                    apply wp_region_lit
                    refine sa _ rfl hk rfl rfl rfl fun a hk => ?_
                    show wpList _ _ _ [] _ _
                    refine wpList_nil ?_
                    refine hK142 _ _ ?_
                    apply wp_seq_k; intro K143 hK143
                    apply wp_region_lit
                    refine sln [.string y47.1.Key, .int .i64 y47.1.Reg.Epoch, .int .i64 y47.1.Reg.Side, .int .i64 y47.1.Reg.Count, .int .i64 y47.1.Reg.Boot, .string y47.1.Reg.Base, .string y47.1.Reg.Tip, .string y47.1.Reg.Root, .slice A49 y47.1.Device.Sure.length p50, .slice A53 y47.1.Device.Unsure.length p54, .bool y47.1.Up, .bool y47.1.Dead] rfl hk rfl rfl rfl ag37 sz37 (box_cells hs (k := 16) rfl) fun a hk => ?_
                    refine sm _ rfl hk rfl rfl rfl fun a hk => ?_
                    obtain ⟨y144, h145, H⟩ := bind_some H
                    refine sc rfl en39 hk rfl rfl rfl (laws_markStore_t _ y47.1 A49 p50 _ o52 A53 p54 _ o56 1 ((hs.hand [(1, 14), (2, 15)] rfl).dpick [] rfl) _ h145) ?_
                    rintro _ w ⟨k146, k149, rfl, ⟨o147, lh148⟩, ⟨o150, lh151⟩, hG⟩ a hk
                    have hs := hs.back [(1, 14), (2, 15)] rfl hG [14, 15] rfl
                    have lh152 : y144.2.1.length = y47.1.Device.Sure.length := lh148
                    have lh153 : y144.2.2.length = y47.1.Device.Unsure.length := lh151
                    refine sa _ rfl hk rfl rfl rfl fun a hk => ?_
                    show wpList _ _ _ [] _ _
                    refine wpList_nil ?_
                    refine hK143 _ _ ?_
                    apply wp_seq_k; intro K154 hK154
                    apply wp_region_lit
                    refine sa _ rfl hk rfl rfl rfl fun a hk => ?_
                    show wpList _ _ _ [] _ _
                    refine wpList_nil ?_
                    refine hK154 _ _ ?_
                    apply wp_seq_k; intro K155 hK155
                    apply wp_region_lit
                    refine sln [.string y47.1.Key, .int .i64 y47.1.Reg.Epoch, .int .i64 y47.1.Reg.Side, .int .i64 y47.1.Reg.Count, .int .i64 y47.1.Reg.Boot, .string y47.1.Reg.Base, .string y47.1.Reg.Tip, .string y47.1.Reg.Root, .slice A49 y47.1.Device.Sure.length p50, .slice A53 y47.1.Device.Unsure.length p54, .bool y47.1.Up, .bool y47.1.Dead] rfl hk rfl rfl rfl ag37 sz37 (box_cells hs (k := 16) rfl) fun a hk => ?_
                    refine sm _ rfl hk rfl rfl rfl fun a hk => ?_
                    have hk := hk.re 86 (v' := (.agg #[.string y47.1.Key, .int .i64 y47.1.Reg.Epoch, .int .i64 y47.1.Reg.Side, .int .i64 y47.1.Reg.Count, .int .i64 y47.1.Reg.Boot, .string y47.1.Reg.Base, .string y47.1.Reg.Tip, .string y47.1.Reg.Root, .slice A49 y144.2.1.length p50, .slice A53 y144.2.2.length p54, .bool y47.1.Up, .bool y47.1.Dead])) rfl (by rw [lh152, lh153])
                    obtain ⟨y156, h157, H⟩ := bind_some H
                    refine sc rfl en40 hk rfl rfl rfl (laws_heldStore_t _ (⟨y47.1.Key, y47.1.Reg, (⟨y144.2.1, y144.2.2⟩ : S_Device), y47.1.Up, y47.1.Dead⟩ : S_Store) A49 p50 _ o147.view (hs.hasG (k := 14) rfl) A53 p54 _ o150.view (hs.hasG (k := 15) rfl) 1 _ h157) ?_
                    rintro _ w ⟨rfl, hG⟩ a hk
                    have hs := hs.call0 hG
                    refine sa _ rfl hk rfl rfl rfl fun a hk => ?_
                    show wpList _ _ _ [] _ _
                    refine wpList_nil ?_
                    refine hK155 _ _ ?_
                    apply wp_seq_k; intro K158 hK158
                    apply wp_seq_k; intro K159 hK159
                    apply wp_region_lit
                    refine sm _ rfl hk rfl rfl rfl fun a hk => ?_
                    refine sv (.bool (decide (y156 < 0))) hk rfl rfl rfl fun a hk => ?_
                    show wpList _ _ _ [] _ _
                    refine wpList_nil ?_
                    refine hK159 _ _ ?_
                    rcases cond_some H with ⟨c160, H⟩ | ⟨c160, H⟩
                    · have hk := hk.lit 90 c160 rfl
                      refine cnd_true hk rfl rfl ?_
                      apply wp_seq_k; intro K161 hK161
                      apply wp_region_lit
                      refine sa _ rfl hk rfl rfl rfl fun a hk => ?_
                      show wpList _ _ _ [] _ _
                      refine wpList_nil ?_
                      refine hK161 _ _ ?_
                      refine wp_ret ?_
                      obtain rfl := Option.some.inj H
                      exact fin hk _ [(.bool false)] rfl ⟨rfl, trivial⟩ ⟨rfl, (hs.pick [] rfl).dnil⟩
                    · have hk := hk.lit 90 c160 rfl
                      refine cnd_false hk rfl rfl ?_
                      refine wp_skip ?_
                      refine hK158 _ _ ?_
                      apply wp_seq_k; intro K162 hK162
                      apply wp_seq_k; intro K163 hK163
                      apply wp_region_lit
                      refine sm _ rfl hk rfl rfl rfl fun a hk => ?_
                      refine sm _ rfl hk rfl rfl rfl fun a hk => ?_
                      refine sv (.bool (y156 != y144.1)) hk rfl rfl rfl fun a hk => ?_
                      show wpList _ _ _ [] _ _
                      refine wpList_nil ?_
                      refine hK163 _ _ ?_
                      rcases cond_some H with ⟨c164, H⟩ | ⟨c164, H⟩
                      · have hk := hk.lit 93 c164 rfl
                        refine cnd_true hk rfl rfl ?_
                        apply wp_seq_k; intro K165 hK165
                        apply wp_region_lit
                        refine sa _ rfl hk rfl rfl rfl fun a hk => ?_
                        show wpList _ _ _ [] _ _
                        refine wpList_nil ?_
                        refine hK165 _ _ ?_
                        refine wp_ret ?_
                        obtain rfl := Option.some.inj H
                        exact fin hk _ [(.bool false)] rfl ⟨rfl, trivial⟩ ⟨rfl, (hs.pick [] rfl).dnil⟩
                      · have hk := hk.lit 93 c164 rfl
                        refine cnd_false hk rfl rfl ?_
                        refine wp_skip ?_
                        refine hK162 _ _ ?_
                        apply wp_seq_k; intro K166 hK166
                        obtain ⟨y_r167_1_1, h_r167_1_2, H⟩ := bind_some H
                        obtain ⟨y_r167_3_1, h_r167_3_2, H⟩ := bind_some H
                        obtain ⟨y_r167_4_1, h_r167_4_2, H⟩ := bind_some H
                        obtain ⟨R168, hR168⟩ : ∃ R : Act → World → Prop, R = fun a w => ∃ (b_r167_8_1 : Nat) (A_r167_4_3 : Option Addr) (p_r167_4_4 : Nat) (A_r167_4_7 : Option Addr) (p_r167_4_8 : Nat) (k_r167_4_5 : Chunk) (k_r167_4_9 : Chunk), Kn [(6, (.pointer (some ⟨b_r20_8_1, 0, none⟩))), (7, (.int .i64 y_r20_4_1.2)), (10, (.pointer (some ⟨b57, 0, none⟩))), (13, (.int .i64 y144.1)), (15, (.pointer (some ⟨b_r167_8_1, 0, none⟩))), (16, (.int .i64 y_r167_4_1.2))] 119 a ∧ Sat [] w0 w [(1, k0_0), (2, k0_1), (3, k1_0), (4, k1_1)] [(16, [(b57, .cells #[.string y47.1.Key, .int .i64 y47.1.Reg.Epoch, .int .i64 y47.1.Reg.Side, .int .i64 y47.1.Reg.Count, .int .i64 y47.1.Reg.Boot, .string y47.1.Reg.Base, .string y47.1.Reg.Tip, .string y47.1.Reg.Root, .slice A49 y47.1.Device.Sure.length p50, .slice A53 y47.1.Device.Unsure.length p54, .bool y47.1.Up, .bool y47.1.Dead] 37 (0, 0))]), (14, k146), (15, k149), (107161, [(b_r20_8_1, .cells #[.string y_r20_4_1.1.Key, .int .i64 y_r20_4_1.1.Reg.Epoch, .int .i64 y_r20_4_1.1.Reg.Side, .int .i64 y_r20_4_1.1.Reg.Count, .int .i64 y_r20_4_1.1.Reg.Boot, .string y_r20_4_1.1.Reg.Base, .string y_r20_4_1.1.Reg.Tip, .string y_r20_4_1.1.Reg.Root, .slice A_r20_4_3 y_r20_4_1.1.Device.Sure.length p_r20_4_4, .slice A_r20_4_7 y_r20_4_1.1.Device.Unsure.length p_r20_4_8, .bool y_r20_4_1.1.Up, .bool y_r20_4_1.1.Dead] 37 (0, 0))]), (107081, k_r20_4_5), (107082, k_r20_4_9), (125161, [(b_r167_8_1, .cells #[.string y_r167_4_1.1.Key, .int .i64 y_r167_4_1.1.Reg.Epoch, .int .i64 y_r167_4_1.1.Reg.Side, .int .i64 y_r167_4_1.1.Reg.Count, .int .i64 y_r167_4_1.1.Reg.Boot, .string y_r167_4_1.1.Reg.Base, .string y_r167_4_1.1.Reg.Tip, .string y_r167_4_1.1.Reg.Root, .slice A_r167_4_3 y_r167_4_1.1.Device.Sure.length p_r167_4_4, .slice A_r167_4_7 y_r167_4_1.1.Device.Unsure.length p_r167_4_8, .bool y_r167_4_1.1.Up, .bool y_r167_4_1.1.Dead] 37 (0, 0))]), (125081, k_r167_4_5), (125082, k_r167_4_9)] ∧ Own Lay.str 9 A_r167_4_3 p_r167_4_4 y_r167_4_1.1.Device.Sure k_r167_4_5 ∧ Own L_Io 114 A_r167_4_7 p_r167_4_8 y_r167_4_1.1.Device.Unsure k_r167_4_9 := ⟨_, rfl⟩
                        refine wp_cutq R168 ?_ ?_
                        · skip
                          refine wp_region_tree (.q 0 (.q 2 (.alt 1 (.alt 3 (.alt 4 (.q 5 (.q 6 (.q 7 (.alt 8 (.alt 9 (.last 10) .stop) .stop)))) (.alt 8 (.alt 4 (.alt 5 (.q 6 (.q 7 (.alt 9 (.last 10) .stop))) .stop) .stop) .stop)) (.alt 8 (.alt 3 (.alt 4 (.alt 5 (.q 6 (.q 7 (.alt 9 (.last 10) .stop))) .stop) .stop) .stop) .stop)) (.alt 8 (.alt 1 (.alt 3 (.alt 4 (.alt 5 (.q 6 (.q 7 (.alt 9 (.last 10) .stop))) .stop) .stop) .stop) .stop) .stop)))) mo (by kernel_rfl) (hs.pick [(5, 5), (6, 6), (16, 16), (14, 14), (15, 15), (107161, 107161), (107081, 107081), (107082, 107082)] rfl) fun _ => ?_
                          have hs := hs.drew
                          refine tqst (.agg #[.string x0.Key, .int .i64 x0.Reg.Epoch, .int .i64 x0.Reg.Side, .int .i64 x0.Reg.Count, .int .i64 x0.Reg.Boot, .string x0.Reg.Base, .string x0.Reg.Tip, .string x0.Reg.Root, .slice A0_0 x0.Device.Sure.length p0_0, .slice A0_1 x0.Device.Unsure.length p0_1, .bool x0.Up, .bool x0.Dead]) hk rfl rfl rfl rfl (fun w hs => sln [.string x0.Key, .int .i64 x0.Reg.Epoch, .int .i64 x0.Reg.Side, .int .i64 x0.Reg.Count, .int .i64 x0.Reg.Boot, .string x0.Reg.Base, .string x0.Reg.Tip, .string x0.Reg.Root, .slice A0_0 x0.Device.Sure.length p0_0, .slice A0_1 x0.Device.Unsure.length p0_1, .bool x0.Up, .bool x0.Dead] rfl hk rfl rfl rfl ag29 sz29 (box_cells hs (k := 5) rfl) fun a hk => qe hk) fun a hk => ?_
                          refine tqst (.agg #[.slice A1_0 x1.Sure.length p1_0, .slice A1_1 x1.Unsure.length p1_1]) hk rfl rfl rfl rfl (fun w hs => sln [.slice A1_0 x1.Sure.length p1_0, .slice A1_1 x1.Unsure.length p1_1] rfl hk rfl rfl rfl ag27 sz27 (box_cells hs (k := 6) rfl) fun a hk => qe hk) fun a hk => ?_
                          refine tsst hk rfl rfl (fun K_r167_1 hK_r167_1 w hF => ?_) ?_
                          · skip
                            have hs := hs.f hF
                            refine sc rfl en13 hk rfl rfl rfl (laws_toStore_t _ x0 A0_0 p0_0 _ v0_0 (hs.hasD (k := 1) rfl) A0_1 p0_1 _ v0_1 (hs.hasD (k := 2) rfl) _ h_r167_1_2) ?_
                            rintro _ w ⟨A_r167_1_3, p_r167_1_4, k_r167_1_5, A_r167_1_7, p_r167_1_8, k_r167_1_9, rfl, o_r167_1_6, o_r167_1_10, hG⟩ a hk
                            have hs := hs.call0k hG [125021, 125022] rfl
                            refine se (hs.pick [(5, 5), (6, 6), (16, 16), (14, 14), (15, 15), (107161, 107161), (107081, 107081), (107082, 107082)] rfl) hk (hK_r167_1 _ _ ?_)
                            refine tsst hk rfl rfl (fun K_r167_3 hK_r167_3 w hF => ?_) ?_
                            · skip
                              have hs := hs.f hF
                              refine sc rfl en30 hk rfl rfl rfl (laws_toDevice_t _ x1 A1_0 p1_0 _ v1_0 (hs.hasD (k := 3) rfl) A1_1 p1_1 _ v1_1 (hs.hasD (k := 4) rfl) _ h_r167_3_2) ?_
                              rintro _ w ⟨A_r167_3_3, p_r167_3_4, k_r167_3_5, A_r167_3_7, p_r167_3_8, k_r167_3_9, rfl, o_r167_3_6, o_r167_3_10, hG⟩ a hk
                              have hs := hs.call0k hG [125061, 125062] rfl
                              refine se (hs.pick [(5, 5), (6, 6), (16, 16), (14, 14), (15, 15), (107161, 107161), (107081, 107081), (107082, 107082)] rfl) hk (hK_r167_3 _ _ ?_)
                              refine tsst hk rfl rfl (fun K_r167_4 hK_r167_4 w hF => ?_) ?_
                              · skip
                                have hs := hs.f hF
                                refine sc rfl en42 hk rfl rfl rfl (impl_WithDevice_t _ y_r167_1_1 A_r167_1_3 p_r167_1_4 _ o_r167_1_6.view (hs.hasG (k := 125021) rfl) A_r167_1_7 p_r167_1_8 _ o_r167_1_10.view (hs.hasG (k := 125022) rfl) y_r167_3_1 A_r167_3_3 p_r167_3_4 _ o_r167_3_6.view (hs.hasG (k := 125061) rfl) A_r167_3_7 p_r167_3_8 _ o_r167_3_10.view (hs.hasG (k := 125062) rfl) _ h_r167_4_2) ?_
                                rintro _ w ⟨A_r167_4_3, p_r167_4_4, k_r167_4_5, A_r167_4_7, p_r167_4_8, k_r167_4_9, rfl, o_r167_4_6, o_r167_4_10, hG⟩ a hk
                                have hs := hs.call0k hG [125081, 125082] rfl
                                refine se (hs.pick [(5, 5), (6, 6), (16, 16), (14, 14), (15, 15), (107161, 107161), (107081, 107081), (107082, 107082)] rfl) hk (hK_r167_4 _ _ ?_)
                                refine tqst (.tuple #[(.agg #[.string y_r167_4_1.1.Key, .int .i64 y_r167_4_1.1.Reg.Epoch, .int .i64 y_r167_4_1.1.Reg.Side, .int .i64 y_r167_4_1.1.Reg.Count, .int .i64 y_r167_4_1.1.Reg.Boot, .string y_r167_4_1.1.Reg.Base, .string y_r167_4_1.1.Reg.Tip, .string y_r167_4_1.1.Reg.Root, .slice A_r167_4_3 y_r167_4_1.1.Device.Sure.length p_r167_4_4, .slice A_r167_4_7 y_r167_4_1.1.Device.Unsure.length p_r167_4_8, .bool y_r167_4_1.1.Up, .bool y_r167_4_1.1.Dead]), (.int .i64 y_r167_4_1.2)]) hk rfl rfl rfl rfl (fun w hs => sm _ rfl hk rfl rfl rfl fun a hk => qe hk) fun a hk => ?_
                                refine tqst (.agg #[.string y_r167_4_1.1.Key, .int .i64 y_r167_4_1.1.Reg.Epoch, .int .i64 y_r167_4_1.1.Reg.Side, .int .i64 y_r167_4_1.1.Reg.Count, .int .i64 y_r167_4_1.1.Reg.Boot, .string y_r167_4_1.1.Reg.Base, .string y_r167_4_1.1.Reg.Tip, .string y_r167_4_1.1.Reg.Root, .slice A_r167_4_3 y_r167_4_1.1.Device.Sure.length p_r167_4_4, .slice A_r167_4_7 y_r167_4_1.1.Device.Unsure.length p_r167_4_8, .bool y_r167_4_1.1.Up, .bool y_r167_4_1.1.Dead]) hk rfl rfl rfl rfl (fun w hs => sv (.agg #[.string y_r167_4_1.1.Key, .int .i64 y_r167_4_1.1.Reg.Epoch, .int .i64 y_r167_4_1.1.Reg.Side, .int .i64 y_r167_4_1.1.Reg.Count, .int .i64 y_r167_4_1.1.Reg.Boot, .string y_r167_4_1.1.Reg.Base, .string y_r167_4_1.1.Reg.Tip, .string y_r167_4_1.1.Reg.Root, .slice A_r167_4_3 y_r167_4_1.1.Device.Sure.length p_r167_4_4, .slice A_r167_4_7 y_r167_4_1.1.Device.Unsure.length p_r167_4_8, .bool y_r167_4_1.1.Up, .bool y_r167_4_1.1.Dead]) hk rfl rfl rfl fun a hk => qe hk) fun a hk => ?_
                                refine tqst (.int .i64 y_r167_4_1.2) hk rfl rfl rfl rfl (fun w hs => sv (.int .i64 y_r167_4_1.2) hk rfl rfl rfl fun a hk => qe hk) fun a hk => ?_
                                refine tsst hk rfl rfl (fun K_r167_8 hK_r167_8 w hF => ?_) wt_stop
                                have hs := hs.f hF
                                refine salx 125161 hs rfl hk rfl rfl ze37 rfl fun b_r167_8_1 w a hk hs => ?_
                                refine se (hs.pick [(5, 5), (6, 6), (16, 16), (14, 14), (15, 15), (107161, 107161), (107081, 107081), (107082, 107082)] rfl) hk (hK_r167_8 _ _ ?_)
                                refine tsst hk rfl rfl (fun K_r167_9 hK_r167_9 w hF => ?_) wt_stop
                                have hs := hs.f hF
                                refine ssw 125161 hs rfl rfl hk rfl rfl rfl rfl sz37 (by simp [Value.oneCell']) rfl fun w a hk hs => ?_
                                refine se (hs.pick [(5, 5), (6, 6), (16, 16), (14, 14), (15, 15), (107161, 107161), (107081, 107081), (107082, 107082)] rfl) hk (hK_r167_9 _ _ ?_)
                                refine tlst hk rfl rfl fun K_r167_10 hK_r167_10 w hF => ?_
                                have hs := hs.f hF
                                refine sa _ rfl hk rfl rfl rfl fun a hk => ?_
                                refine se trivial hk (hK_r167_10 _ _ fun w hF => ?_)
                                have hs := hs.f hF
                                show R168 _ _
                                rw [hR168]
                                exact ⟨b_r167_8_1, A_r167_4_3, p_r167_4_4, A_r167_4_7, p_r167_4_8, k_r167_4_5, k_r167_4_9, (hk.c 6 rfl (hk.c 7 rfl (hk.c 10 rfl (hk.c 13 rfl (hk.c 15 rfl (hk.c 16 rfl hk.k)))))), (hs.pick [(16, 16), (14, 14), (15, 15), (107161, 107161), (107081, 107081), (107082, 107082), (125161, 125161), (125081, 125081), (125082, 125082)] rfl), o_r167_4_6, o_r167_4_10⟩
                              refine tsst hk rfl rfl (fun K_r167_8 hK_r167_8 w hF => ?_) wt_stop
                              have hs := hs.f hF
                              refine salx 125161 hs rfl hk rfl rfl ze37 rfl fun b_r167_8_1 w a hk hs => ?_
                              refine se (hs.pick [(5, 5), (6, 6), (16, 16), (14, 14), (15, 15), (107161, 107161), (107081, 107081), (107082, 107082)] rfl) hk (hK_r167_8 _ _ ?_)
                              refine tsst hk rfl rfl (fun K_r167_4 hK_r167_4 w hF => ?_) wt_stop
                              have hs := hs.f hF
                              refine sc rfl en42 hk rfl rfl rfl (impl_WithDevice_t _ y_r167_1_1 A_r167_1_3 p_r167_1_4 _ o_r167_1_6.view (hs.hasG (k := 125021) rfl) A_r167_1_7 p_r167_1_8 _ o_r167_1_10.view (hs.hasG (k := 125022) rfl) y_r167_3_1 A_r167_3_3 p_r167_3_4 _ o_r167_3_6.view (hs.hasG (k := 125061) rfl) A_r167_3_7 p_r167_3_8 _ o_r167_3_10.view (hs.hasG (k := 125062) rfl) _ h_r167_4_2) ?_
                              rintro _ w ⟨A_r167_4_3, p_r167_4_4, k_r167_4_5, A_r167_4_7, p_r167_4_8, k_r167_4_9, rfl, o_r167_4_6, o_r167_4_10, hG⟩ a hk
                              have hs := hs.call0k hG [125081, 125082] rfl
                              refine se (hs.pick [(5, 5), (6, 6), (16, 16), (14, 14), (15, 15), (107161, 107161), (107081, 107081), (107082, 107082)] rfl) hk (hK_r167_4 _ _ ?_)
                              refine tsst hk rfl rfl (fun K_r167_5 hK_r167_5 w hF => ?_) wt_stop
                              have hs := hs.f hF
                              refine sm _ rfl hk rfl rfl rfl fun a hk => ?_
                              refine se (hs.pick [(5, 5), (6, 6), (16, 16), (14, 14), (15, 15), (107161, 107161), (107081, 107081), (107082, 107082)] rfl) hk (hK_r167_5 _ _ ?_)
                              refine tqst (.agg #[.string y_r167_4_1.1.Key, .int .i64 y_r167_4_1.1.Reg.Epoch, .int .i64 y_r167_4_1.1.Reg.Side, .int .i64 y_r167_4_1.1.Reg.Count, .int .i64 y_r167_4_1.1.Reg.Boot, .string y_r167_4_1.1.Reg.Base, .string y_r167_4_1.1.Reg.Tip, .string y_r167_4_1.1.Reg.Root, .slice A_r167_4_3 y_r167_4_1.1.Device.Sure.length p_r167_4_4, .slice A_r167_4_7 y_r167_4_1.1.Device.Unsure.length p_r167_4_8, .bool y_r167_4_1.1.Up, .bool y_r167_4_1.1.Dead]) hk rfl rfl rfl rfl (fun w hs => sv (.agg #[.string y_r167_4_1.1.Key, .int .i64 y_r167_4_1.1.Reg.Epoch, .int .i64 y_r167_4_1.1.Reg.Side, .int .i64 y_r167_4_1.1.Reg.Count, .int .i64 y_r167_4_1.1.Reg.Boot, .string y_r167_4_1.1.Reg.Base, .string y_r167_4_1.1.Reg.Tip, .string y_r167_4_1.1.Reg.Root, .slice A_r167_4_3 y_r167_4_1.1.Device.Sure.length p_r167_4_4, .slice A_r167_4_7 y_r167_4_1.1.Device.Unsure.length p_r167_4_8, .bool y_r167_4_1.1.Up, .bool y_r167_4_1.1.Dead]) hk rfl rfl rfl fun a hk => qe hk) fun a hk => ?_
                              refine tqst (.int .i64 y_r167_4_1.2) hk rfl rfl rfl rfl (fun w hs => sv (.int .i64 y_r167_4_1.2) hk rfl rfl rfl fun a hk => qe hk) fun a hk => ?_
                              refine tsst hk rfl rfl (fun K_r167_9 hK_r167_9 w hF => ?_) wt_stop
                              have hs := hs.f hF
                              refine ssw 125161 hs rfl rfl hk rfl rfl rfl rfl sz37 (by simp [Value.oneCell']) rfl fun w a hk hs => ?_
                              refine se (hs.pick [(5, 5), (6, 6), (16, 16), (14, 14), (15, 15), (107161, 107161), (107081, 107081), (107082, 107082)] rfl) hk (hK_r167_9 _ _ ?_)
                              refine tlst hk rfl rfl fun K_r167_10 hK_r167_10 w hF => ?_
                              have hs := hs.f hF
                              refine sa _ rfl hk rfl rfl rfl fun a hk => ?_
                              refine se trivial hk (hK_r167_10 _ _ fun w hF => ?_)
                              have hs := hs.f hF
                              show R168 _ _
                              rw [hR168]
                              exact ⟨b_r167_8_1, A_r167_4_3, p_r167_4_4, A_r167_4_7, p_r167_4_8, k_r167_4_5, k_r167_4_9, (hk.c 6 rfl (hk.c 7 rfl (hk.c 10 rfl (hk.c 13 rfl (hk.c 15 rfl (hk.c 16 rfl hk.k)))))), (hs.pick [(16, 16), (14, 14), (15, 15), (107161, 107161), (107081, 107081), (107082, 107082), (125161, 125161), (125081, 125081), (125082, 125082)] rfl), o_r167_4_6, o_r167_4_10⟩
                            refine tsst hk rfl rfl (fun K_r167_8 hK_r167_8 w hF => ?_) wt_stop
                            have hs := hs.f hF
                            refine salx 125161 hs rfl hk rfl rfl ze37 rfl fun b_r167_8_1 w a hk hs => ?_
                            refine se (hs.pick [(5, 5), (6, 6), (16, 16), (14, 14), (15, 15), (107161, 107161), (107081, 107081), (107082, 107082)] rfl) hk (hK_r167_8 _ _ ?_)
                            refine tsst hk rfl rfl (fun K_r167_3 hK_r167_3 w hF => ?_) wt_stop
                            have hs := hs.f hF
                            refine sc rfl en30 hk rfl rfl rfl (laws_toDevice_t _ x1 A1_0 p1_0 _ v1_0 (hs.hasD (k := 3) rfl) A1_1 p1_1 _ v1_1 (hs.hasD (k := 4) rfl) _ h_r167_3_2) ?_
                            rintro _ w ⟨A_r167_3_3, p_r167_3_4, k_r167_3_5, A_r167_3_7, p_r167_3_8, k_r167_3_9, rfl, o_r167_3_6, o_r167_3_10, hG⟩ a hk
                            have hs := hs.call0k hG [125061, 125062] rfl
                            refine se (hs.pick [(5, 5), (6, 6), (16, 16), (14, 14), (15, 15), (107161, 107161), (107081, 107081), (107082, 107082)] rfl) hk (hK_r167_3 _ _ ?_)
                            refine tsst hk rfl rfl (fun K_r167_4 hK_r167_4 w hF => ?_) wt_stop
                            have hs := hs.f hF
                            refine sc rfl en42 hk rfl rfl rfl (impl_WithDevice_t _ y_r167_1_1 A_r167_1_3 p_r167_1_4 _ o_r167_1_6.view (hs.hasG (k := 125021) rfl) A_r167_1_7 p_r167_1_8 _ o_r167_1_10.view (hs.hasG (k := 125022) rfl) y_r167_3_1 A_r167_3_3 p_r167_3_4 _ o_r167_3_6.view (hs.hasG (k := 125061) rfl) A_r167_3_7 p_r167_3_8 _ o_r167_3_10.view (hs.hasG (k := 125062) rfl) _ h_r167_4_2) ?_
                            rintro _ w ⟨A_r167_4_3, p_r167_4_4, k_r167_4_5, A_r167_4_7, p_r167_4_8, k_r167_4_9, rfl, o_r167_4_6, o_r167_4_10, hG⟩ a hk
                            have hs := hs.call0k hG [125081, 125082] rfl
                            refine se (hs.pick [(5, 5), (6, 6), (16, 16), (14, 14), (15, 15), (107161, 107161), (107081, 107081), (107082, 107082)] rfl) hk (hK_r167_4 _ _ ?_)
                            refine tsst hk rfl rfl (fun K_r167_5 hK_r167_5 w hF => ?_) wt_stop
                            have hs := hs.f hF
                            refine sm _ rfl hk rfl rfl rfl fun a hk => ?_
                            refine se (hs.pick [(5, 5), (6, 6), (16, 16), (14, 14), (15, 15), (107161, 107161), (107081, 107081), (107082, 107082)] rfl) hk (hK_r167_5 _ _ ?_)
                            refine tqst (.agg #[.string y_r167_4_1.1.Key, .int .i64 y_r167_4_1.1.Reg.Epoch, .int .i64 y_r167_4_1.1.Reg.Side, .int .i64 y_r167_4_1.1.Reg.Count, .int .i64 y_r167_4_1.1.Reg.Boot, .string y_r167_4_1.1.Reg.Base, .string y_r167_4_1.1.Reg.Tip, .string y_r167_4_1.1.Reg.Root, .slice A_r167_4_3 y_r167_4_1.1.Device.Sure.length p_r167_4_4, .slice A_r167_4_7 y_r167_4_1.1.Device.Unsure.length p_r167_4_8, .bool y_r167_4_1.1.Up, .bool y_r167_4_1.1.Dead]) hk rfl rfl rfl rfl (fun w hs => sv (.agg #[.string y_r167_4_1.1.Key, .int .i64 y_r167_4_1.1.Reg.Epoch, .int .i64 y_r167_4_1.1.Reg.Side, .int .i64 y_r167_4_1.1.Reg.Count, .int .i64 y_r167_4_1.1.Reg.Boot, .string y_r167_4_1.1.Reg.Base, .string y_r167_4_1.1.Reg.Tip, .string y_r167_4_1.1.Reg.Root, .slice A_r167_4_3 y_r167_4_1.1.Device.Sure.length p_r167_4_4, .slice A_r167_4_7 y_r167_4_1.1.Device.Unsure.length p_r167_4_8, .bool y_r167_4_1.1.Up, .bool y_r167_4_1.1.Dead]) hk rfl rfl rfl fun a hk => qe hk) fun a hk => ?_
                            refine tqst (.int .i64 y_r167_4_1.2) hk rfl rfl rfl rfl (fun w hs => sv (.int .i64 y_r167_4_1.2) hk rfl rfl rfl fun a hk => qe hk) fun a hk => ?_
                            refine tsst hk rfl rfl (fun K_r167_9 hK_r167_9 w hF => ?_) wt_stop
                            have hs := hs.f hF
                            refine ssw 125161 hs rfl rfl hk rfl rfl rfl rfl sz37 (by simp [Value.oneCell']) rfl fun w a hk hs => ?_
                            refine se (hs.pick [(5, 5), (6, 6), (16, 16), (14, 14), (15, 15), (107161, 107161), (107081, 107081), (107082, 107082)] rfl) hk (hK_r167_9 _ _ ?_)
                            refine tlst hk rfl rfl fun K_r167_10 hK_r167_10 w hF => ?_
                            have hs := hs.f hF
                            refine sa _ rfl hk rfl rfl rfl fun a hk => ?_
                            refine se trivial hk (hK_r167_10 _ _ fun w hF => ?_)
                            have hs := hs.f hF
                            show R168 _ _
                            rw [hR168]
                            exact ⟨b_r167_8_1, A_r167_4_3, p_r167_4_4, A_r167_4_7, p_r167_4_8, k_r167_4_5, k_r167_4_9, (hk.c 6 rfl (hk.c 7 rfl (hk.c 10 rfl (hk.c 13 rfl (hk.c 15 rfl (hk.c 16 rfl hk.k)))))), (hs.pick [(16, 16), (14, 14), (15, 15), (107161, 107161), (107081, 107081), (107082, 107082), (125161, 125161), (125081, 125081), (125082, 125082)] rfl), o_r167_4_6, o_r167_4_10⟩
                          refine tsst hk rfl rfl (fun K_r167_8 hK_r167_8 w hF => ?_) wt_stop
                          have hs := hs.f hF
                          refine salx 125161 hs rfl hk rfl rfl ze37 rfl fun b_r167_8_1 w a hk hs => ?_
                          refine se (hs.pick [(5, 5), (6, 6), (16, 16), (14, 14), (15, 15), (107161, 107161), (107081, 107081), (107082, 107082)] rfl) hk (hK_r167_8 _ _ ?_)
                          refine tsst hk rfl rfl (fun K_r167_1 hK_r167_1 w hF => ?_) wt_stop
                          have hs := hs.f hF
                          refine sc rfl en13 hk rfl rfl rfl (laws_toStore_t _ x0 A0_0 p0_0 _ v0_0 (hs.hasD (k := 1) rfl) A0_1 p0_1 _ v0_1 (hs.hasD (k := 2) rfl) _ h_r167_1_2) ?_
                          rintro _ w ⟨A_r167_1_3, p_r167_1_4, k_r167_1_5, A_r167_1_7, p_r167_1_8, k_r167_1_9, rfl, o_r167_1_6, o_r167_1_10, hG⟩ a hk
                          have hs := hs.call0k hG [125021, 125022] rfl
                          refine se (hs.pick [(5, 5), (6, 6), (16, 16), (14, 14), (15, 15), (107161, 107161), (107081, 107081), (107082, 107082)] rfl) hk (hK_r167_1 _ _ ?_)
                          refine tsst hk rfl rfl (fun K_r167_3 hK_r167_3 w hF => ?_) wt_stop
                          have hs := hs.f hF
                          refine sc rfl en30 hk rfl rfl rfl (laws_toDevice_t _ x1 A1_0 p1_0 _ v1_0 (hs.hasD (k := 3) rfl) A1_1 p1_1 _ v1_1 (hs.hasD (k := 4) rfl) _ h_r167_3_2) ?_
                          rintro _ w ⟨A_r167_3_3, p_r167_3_4, k_r167_3_5, A_r167_3_7, p_r167_3_8, k_r167_3_9, rfl, o_r167_3_6, o_r167_3_10, hG⟩ a hk
                          have hs := hs.call0k hG [125061, 125062] rfl
                          refine se (hs.pick [(5, 5), (6, 6), (16, 16), (14, 14), (15, 15), (107161, 107161), (107081, 107081), (107082, 107082)] rfl) hk (hK_r167_3 _ _ ?_)
                          refine tsst hk rfl rfl (fun K_r167_4 hK_r167_4 w hF => ?_) wt_stop
                          have hs := hs.f hF
                          refine sc rfl en42 hk rfl rfl rfl (impl_WithDevice_t _ y_r167_1_1 A_r167_1_3 p_r167_1_4 _ o_r167_1_6.view (hs.hasG (k := 125021) rfl) A_r167_1_7 p_r167_1_8 _ o_r167_1_10.view (hs.hasG (k := 125022) rfl) y_r167_3_1 A_r167_3_3 p_r167_3_4 _ o_r167_3_6.view (hs.hasG (k := 125061) rfl) A_r167_3_7 p_r167_3_8 _ o_r167_3_10.view (hs.hasG (k := 125062) rfl) _ h_r167_4_2) ?_
                          rintro _ w ⟨A_r167_4_3, p_r167_4_4, k_r167_4_5, A_r167_4_7, p_r167_4_8, k_r167_4_9, rfl, o_r167_4_6, o_r167_4_10, hG⟩ a hk
                          have hs := hs.call0k hG [125081, 125082] rfl
                          refine se (hs.pick [(5, 5), (6, 6), (16, 16), (14, 14), (15, 15), (107161, 107161), (107081, 107081), (107082, 107082)] rfl) hk (hK_r167_4 _ _ ?_)
                          refine tsst hk rfl rfl (fun K_r167_5 hK_r167_5 w hF => ?_) wt_stop
                          have hs := hs.f hF
                          refine sm _ rfl hk rfl rfl rfl fun a hk => ?_
                          refine se (hs.pick [(5, 5), (6, 6), (16, 16), (14, 14), (15, 15), (107161, 107161), (107081, 107081), (107082, 107082)] rfl) hk (hK_r167_5 _ _ ?_)
                          refine tqst (.agg #[.string y_r167_4_1.1.Key, .int .i64 y_r167_4_1.1.Reg.Epoch, .int .i64 y_r167_4_1.1.Reg.Side, .int .i64 y_r167_4_1.1.Reg.Count, .int .i64 y_r167_4_1.1.Reg.Boot, .string y_r167_4_1.1.Reg.Base, .string y_r167_4_1.1.Reg.Tip, .string y_r167_4_1.1.Reg.Root, .slice A_r167_4_3 y_r167_4_1.1.Device.Sure.length p_r167_4_4, .slice A_r167_4_7 y_r167_4_1.1.Device.Unsure.length p_r167_4_8, .bool y_r167_4_1.1.Up, .bool y_r167_4_1.1.Dead]) hk rfl rfl rfl rfl (fun w hs => sv (.agg #[.string y_r167_4_1.1.Key, .int .i64 y_r167_4_1.1.Reg.Epoch, .int .i64 y_r167_4_1.1.Reg.Side, .int .i64 y_r167_4_1.1.Reg.Count, .int .i64 y_r167_4_1.1.Reg.Boot, .string y_r167_4_1.1.Reg.Base, .string y_r167_4_1.1.Reg.Tip, .string y_r167_4_1.1.Reg.Root, .slice A_r167_4_3 y_r167_4_1.1.Device.Sure.length p_r167_4_4, .slice A_r167_4_7 y_r167_4_1.1.Device.Unsure.length p_r167_4_8, .bool y_r167_4_1.1.Up, .bool y_r167_4_1.1.Dead]) hk rfl rfl rfl fun a hk => qe hk) fun a hk => ?_
                          refine tqst (.int .i64 y_r167_4_1.2) hk rfl rfl rfl rfl (fun w hs => sv (.int .i64 y_r167_4_1.2) hk rfl rfl rfl fun a hk => qe hk) fun a hk => ?_
                          refine tsst hk rfl rfl (fun K_r167_9 hK_r167_9 w hF => ?_) wt_stop
                          have hs := hs.f hF
                          refine ssw 125161 hs rfl rfl hk rfl rfl rfl rfl sz37 (by simp [Value.oneCell']) rfl fun w a hk hs => ?_
                          refine se (hs.pick [(5, 5), (6, 6), (16, 16), (14, 14), (15, 15), (107161, 107161), (107081, 107081), (107082, 107082)] rfl) hk (hK_r167_9 _ _ ?_)
                          refine tlst hk rfl rfl fun K_r167_10 hK_r167_10 w hF => ?_
                          have hs := hs.f hF
                          refine sa _ rfl hk rfl rfl rfl fun a hk => ?_
                          refine se trivial hk (hK_r167_10 _ _ fun w hF => ?_)
                          have hs := hs.f hF
                          show R168 _ _
                          rw [hR168]
                          exact ⟨b_r167_8_1, A_r167_4_3, p_r167_4_4, A_r167_4_7, p_r167_4_8, k_r167_4_5, k_r167_4_9, (hk.c 6 rfl (hk.c 7 rfl (hk.c 10 rfl (hk.c 13 rfl (hk.c 15 rfl (hk.c 16 rfl hk.k)))))), (hs.pick [(16, 16), (14, 14), (15, 15), (107161, 107161), (107081, 107081), (107082, 107082), (125161, 125161), (125081, 125081), (125082, 125082)] rfl), o_r167_4_6, o_r167_4_10⟩
                        · intro a w hR0
                          rw [hR168] at hR0
                          obtain ⟨b_r167_8_1, A_r167_4_3, p_r167_4_4, A_r167_4_7, p_r167_4_8, k_r167_4_5, k_r167_4_9, hk, hs, o_r167_4_6, o_r167_4_10⟩ := hR0
                          refine hK166 _ _ ?_
                          apply wp_seq_k; intro K169 hK169
                          apply wp_seq_k; intro K170 hK170
                          obtain ⟨o173, h174, HL175⟩ := bind_some H
                          clear H
                          obtain ⟨R176, hR176⟩ : ∃ R : Act → World → Prop, R = fun a w => ∃ (u172 : Bool), u172 = o173 ∧ Kn [(10, (.pointer (some ⟨b57, 0, none⟩))), (13, (.int .i64 y144.1)), (110, (.bool u172))] 119 a ∧ Sat [] w0 w [(1, k0_0), (2, k0_1), (3, k1_0), (4, k1_1)] [(16, [(b57, .cells #[.string y47.1.Key, .int .i64 y47.1.Reg.Epoch, .int .i64 y47.1.Reg.Side, .int .i64 y47.1.Reg.Count, .int .i64 y47.1.Reg.Boot, .string y47.1.Reg.Base, .string y47.1.Reg.Tip, .string y47.1.Reg.Root, .slice A49 y47.1.Device.Sure.length p50, .slice A53 y47.1.Device.Unsure.length p54, .bool y47.1.Up, .bool y47.1.Dead] 37 (0, 0))]), (14, k146), (15, k149)] := ⟨_, rfl⟩
                          refine wp_cutq R176 ?_ ?_
                          · have H := h174
                            apply wp_region_lit
                            refine sln [.string y_r167_4_1.1.Key, .int .i64 y_r167_4_1.1.Reg.Epoch, .int .i64 y_r167_4_1.1.Reg.Side, .int .i64 y_r167_4_1.1.Reg.Count, .int .i64 y_r167_4_1.1.Reg.Boot, .string y_r167_4_1.1.Reg.Base, .string y_r167_4_1.1.Reg.Tip, .string y_r167_4_1.1.Reg.Root, .slice A_r167_4_3 y_r167_4_1.1.Device.Sure.length p_r167_4_4, .slice A_r167_4_7 y_r167_4_1.1.Device.Unsure.length p_r167_4_8, .bool y_r167_4_1.1.Up, .bool y_r167_4_1.1.Dead] rfl hk rfl rfl rfl ag37 sz37 (box_cells hs (k := 125161) rfl) fun a hk => ?_
                            refine sln [.string y_r20_4_1.1.Key, .int .i64 y_r20_4_1.1.Reg.Epoch, .int .i64 y_r20_4_1.1.Reg.Side, .int .i64 y_r20_4_1.1.Reg.Count, .int .i64 y_r20_4_1.1.Reg.Boot, .string y_r20_4_1.1.Reg.Base, .string y_r20_4_1.1.Reg.Tip, .string y_r20_4_1.1.Reg.Root, .slice A_r20_4_3 y_r20_4_1.1.Device.Sure.length p_r20_4_4, .slice A_r20_4_7 y_r20_4_1.1.Device.Unsure.length p_r20_4_8, .bool y_r20_4_1.1.Up, .bool y_r20_4_1.1.Dead] rfl hk rfl rfl rfl ag37 sz37 (box_cells hs (k := 107161) rfl) fun a hk => ?_
                            obtain ⟨y177, h178, H⟩ := bind_some H
                            refine sc rfl en15 hk rfl rfl rfl (laws_eqStore_t _ (⟨y_r167_4_1.1.Key, y_r167_4_1.1.Reg, (⟨y_r167_4_1.1.Device.Sure, y_r167_4_1.1.Device.Unsure⟩ : S_Device), y_r167_4_1.1.Up, y_r167_4_1.1.Dead⟩ : S_Store) A_r167_4_3 p_r167_4_4 _ o_r167_4_6.view (hs.hasG (k := 125081) rfl) A_r167_4_7 p_r167_4_8 _ o_r167_4_10.view (hs.hasG (k := 125082) rfl) (⟨y_r20_4_1.1.Key, y_r20_4_1.1.Reg, (⟨y_r20_4_1.1.Device.Sure, y_r20_4_1.1.Device.Unsure⟩ : S_Device), y_r20_4_1.1.Up, y_r20_4_1.1.Dead⟩ : S_Store) A_r20_4_3 p_r20_4_4 _ o_r20_4_6.view (hs.hasG (k := 107081) rfl) A_r20_4_7 p_r20_4_8 _ o_r20_4_10.view (hs.hasG (k := 107082) rfl) _ h178) ?_
                            rintro _ w ⟨rfl, hG⟩ a hk
                            have hs := hs.call0 hG
                            refine sv (.bool (!y177)) hk rfl rfl rfl fun a hk => ?_
                            refine sm _ rfl hk rfl rfl rfl fun a hk => ?_
                            rcases cond_some H with ⟨c179, H⟩ | ⟨c179, H⟩
                            · have hk := hk.lit 106 c179 rfl
                              refine sk hk rfl rfl rfl fun a hk => ?_
                              refine sk hk rfl rfl rfl fun a hk => ?_
                              refine sk hk rfl rfl rfl fun a hk => ?_
                              refine sv (.bool true) hk rfl rfl rfl fun a hk => ?_
                              show wpList _ _ _ [] _ _
                              refine wpList_nil ?_
                              obtain rfl := Option.some.inj H
                              show R176 _ _
                              rw [hR176]
                              exact ⟨true, rfl, (hk.c 10 rfl (hk.c 13 rfl (hk.c 110 rfl hk.k))), (hs.pick [(16, 16), (14, 14), (15, 15)] rfl)⟩
                            · have hk := hk.lit 106 c179 rfl
                              refine sm _ rfl hk rfl rfl rfl fun a hk => ?_
                              refine sm _ rfl hk rfl rfl rfl fun a hk => ?_
                              refine sv (.bool (y_r167_4_1.2 != y_r20_4_1.2)) hk rfl rfl rfl fun a hk => ?_
                              refine sv (.bool (y_r167_4_1.2 != y_r20_4_1.2)) hk rfl rfl rfl fun a hk => ?_
                              show wpList _ _ _ [] _ _
                              refine wpList_nil ?_
                              obtain rfl := Option.some.inj H
                              show R176 _ _
                              rw [hR176]
                              exact ⟨(y_r167_4_1.2 != y_r20_4_1.2), rfl, (hk.c 10 rfl (hk.c 13 rfl (hk.c 110 rfl hk.k))), (hs.pick [(16, 16), (14, 14), (15, 15)] rfl)⟩
                          · intro a w hR0
                            rw [hR176] at hR0
                            obtain ⟨u172, rfl, hk, hs⟩ := hR0
                            have H := HL175
                            try dsimp only at H
                            refine hK170 _ _ ?_
                            rcases cond_some H with ⟨c180, H⟩ | ⟨c180, H⟩
                            · have hk := hk.lit 110 c180 rfl
                              refine cnd_true hk rfl rfl ?_
                              apply wp_seq_k; intro K181 hK181
                              apply wp_region_lit
                              refine sa _ rfl hk rfl rfl rfl fun a hk => ?_
                              show wpList _ _ _ [] _ _
                              refine wpList_nil ?_
                              refine hK181 _ _ ?_
                              refine wp_ret ?_
                              obtain rfl := Option.some.inj H
                              exact fin hk _ [(.bool false)] rfl ⟨rfl, trivial⟩ ⟨rfl, (hs.pick [] rfl).dnil⟩
                            · have hk := hk.lit 110 c180 rfl
                              refine cnd_false hk rfl rfl ?_
                              refine wp_skip ?_
                              refine hK169 _ _ ?_
                              apply wp_seq_k; intro K182 hK182
                              apply wp_region_lit
                              refine sa _ rfl hk rfl rfl rfl fun a hk => ?_
                              show wpList _ _ _ [] _ _
                              refine wpList_nil ?_
                              refine hK182 _ _ ?_
                              apply wp_seq_k; intro K183 hK183
                              apply wp_region_lit
                              refine sln [.string y47.1.Key, .int .i64 y47.1.Reg.Epoch, .int .i64 y47.1.Reg.Side, .int .i64 y47.1.Reg.Count, .int .i64 y47.1.Reg.Boot, .string y47.1.Reg.Base, .string y47.1.Reg.Tip, .string y47.1.Reg.Root, .slice A49 y47.1.Device.Sure.length p50, .slice A53 y47.1.Device.Unsure.length p54, .bool y47.1.Up, .bool y47.1.Dead] rfl hk rfl rfl rfl ag37 sz37 (box_cells hs (k := 16) rfl) fun a hk => ?_
                              refine sm _ rfl hk rfl rfl rfl fun a hk => ?_
                              have hk := hk.re 111 (v' := (.agg #[.string y47.1.Key, .int .i64 y47.1.Reg.Epoch, .int .i64 y47.1.Reg.Side, .int .i64 y47.1.Reg.Count, .int .i64 y47.1.Reg.Boot, .string y47.1.Reg.Base, .string y47.1.Reg.Tip, .string y47.1.Reg.Root, .slice A49 y144.2.1.length p50, .slice A53 y144.2.2.length p54, .bool y47.1.Up, .bool y47.1.Dead])) rfl (by rw [lh152, lh153])
                              obtain ⟨y184, h185, H⟩ := bind_some H
                              refine sc rfl en40 hk rfl rfl rfl (laws_heldStore_t _ (⟨y47.1.Key, y47.1.Reg, (⟨y144.2.1, y144.2.2⟩ : S_Device), y47.1.Up, y47.1.Dead⟩ : S_Store) A49 p50 _ o147.view (hs.hasG (k := 14) rfl) A53 p54 _ o150.view (hs.hasG (k := 15) rfl) 1 _ h185) ?_
                              rintro _ w ⟨rfl, hG⟩ a hk
                              have hs := hs.call0 hG
                              refine sa _ rfl hk rfl rfl rfl fun a hk => ?_
                              show wpList _ _ _ [] _ _
                              refine wpList_nil ?_
                              refine hK183 _ _ ?_
                              apply wp_seq_k; intro K186 hK186
                              apply wp_seq_k; intro K187 hK187
                              apply wp_region_lit
                              refine sm _ rfl hk rfl rfl rfl fun a hk => ?_
                              refine sv (.bool (decide (y184 < 0))) hk rfl rfl rfl fun a hk => ?_
                              show wpList _ _ _ [] _ _
                              refine wpList_nil ?_
                              refine hK187 _ _ ?_
                              rcases cond_some H with ⟨c188, H⟩ | ⟨c188, H⟩
                              · have hk := hk.lit 115 c188 rfl
                                refine cnd_true hk rfl rfl ?_
                                apply wp_seq_k; intro K189 hK189
                                apply wp_region_lit
                                refine sa _ rfl hk rfl rfl rfl fun a hk => ?_
                                show wpList _ _ _ [] _ _
                                refine wpList_nil ?_
                                refine hK189 _ _ ?_
                                refine wp_ret ?_
                                obtain rfl := Option.some.inj H
                                exact fin hk _ [(.bool false)] rfl ⟨rfl, trivial⟩ ⟨rfl, (hs.pick [] rfl).dnil⟩
                              · have hk := hk.lit 115 c188 rfl
                                refine cnd_false hk rfl rfl ?_
                                refine wp_skip ?_
                                refine hK186 _ _ ?_
                                apply wp_seq_k; intro K190 hK190
                                apply wp_seq_k; intro K191 hK191
                                apply wp_region_lit
                                refine sm _ rfl hk rfl rfl rfl fun a hk => ?_
                                refine sm _ rfl hk rfl rfl rfl fun a hk => ?_
                                refine sv (.bool (y184 != y144.1)) hk rfl rfl rfl fun a hk => ?_
                                show wpList _ _ _ [] _ _
                                refine wpList_nil ?_
                                refine hK191 _ _ ?_
                                rcases cond_some H with ⟨c192, H⟩ | ⟨c192, H⟩
                                · have hk := hk.lit 118 c192 rfl
                                  refine cnd_true hk rfl rfl ?_
                                  apply wp_seq_k; intro K193 hK193
                                  apply wp_region_lit
                                  refine sa _ rfl hk rfl rfl rfl fun a hk => ?_
                                  show wpList _ _ _ [] _ _
                                  refine wpList_nil ?_
                                  refine hK193 _ _ ?_
                                  refine wp_ret ?_
                                  obtain rfl := Option.some.inj H
                                  exact fin hk _ [(.bool false)] rfl ⟨rfl, trivial⟩ ⟨rfl, (hs.pick [] rfl).dnil⟩
                                · have hk := hk.lit 118 c192 rfl
                                  refine cnd_false hk rfl rfl ?_
                                  refine wp_skip ?_
                                  refine hK190 _ _ ?_
                                  apply wp_seq_k; intro K194 hK194
                                  apply wp_region_lit
                                  refine sa _ rfl hk rfl rfl rfl fun a hk => ?_
                                  show wpList _ _ _ [] _ _
                                  refine wpList_nil ?_
                                  refine hK194 _ _ ?_
                                  refine wp_ret ?_
                                  obtain rfl := Option.some.inj H
                                  exact fin hk _ [(.bool true)] rfl ⟨rfl, trivial⟩ ⟨rfl, (hs.pick [] rfl).dnil⟩

end Go.Proofs.Ytmafglodgnbajaa
