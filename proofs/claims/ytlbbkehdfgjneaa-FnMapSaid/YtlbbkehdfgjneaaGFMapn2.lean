/- Further functions. -/
import Derived.Test.YtlbbkehdfgjneaaGFMapn1
namespace Go.Proofs.Ytlbbkehdfgjneaa
open Go Go.Z Go.Proofs Go.MuLone Go.ChangeShapes Go.WideShapes Go.ChangeAt Go.RowKit
set_option linter.unusedVariables false
set_option linter.unusedSimpArgs false
noncomputable def laws_at.f (l0 : List Int) (x1 : Int) (x2 : Int) : Option (Int) :=
  (bif (decide (x2 ≤ 1)) then (some 0) else (bif ((l0.length : Int) == 0) then (if x2 = 0 then none else (some (Int.tmod (w64 (x1 * 7)) x2))) else (if (l0.length : Int) = 0 then none else (if 0 ≤ (Int.tmod x1 (l0.length : Int)) ∧ (Int.tmod x1 (l0.length : Int)) < (l0.length : Int) then (if (l0.length : Int) = 0 then none else (if 0 ≤ (Int.tmod (w64 (x1 + 1)) (l0.length : Int)) ∧ (Int.tmod (w64 (x1 + 1)) (l0.length : Int)) < (l0.length : Int) then (if (l0.length : Int) = 0 then none else (if x2 = 0 then none else (some (Int.tmod (w64 ((w64 ((w64 ((IntKind.wrap .i64 (l0.getD (Int.tmod x1 (l0.length : Int)).toNat 0)) * 31)) + (IntKind.wrap .i64 (l0.getD (Int.tmod (w64 (x1 + 1)) (l0.length : Int)).toNat 0)))) + (IntKind.wrap .i64 (Int.tdiv x1 (l0.length : Int))))) x2)))) else none)) else none))))
set_option maxRecDepth 100000 in
set_option maxHeartbeats 0 in
theorem laws_at_t (w0 : World) (A0_ : Option Addr) (p0_ : Nat) (l0 : List Int) (k0_ : Chunk) (v0_ : View (Lay.int .u8) A0_ p0_ l0 k0_) (w0_ : Has w0 k0_) (x1 : Int) (x2 : Int) (r : Int) (H : laws_at.f l0 x1 x2 = some r) :
    Calls Try.prog 32 #[.slice A0_ l0.length p0_, .int .i64 x1, .int .i64 x2] w0 (Ret (fun v w => v = .int .i64 r ∧ Sat [] w0 w [] [])) := by
  have hs : Sat [] w0 w0 [(1, k0_)] [] := Sat.init w0 [(1, k0_)] [] (by simp only [List.mem_cons, List.not_mem_nil, or_false]; rintro x (rfl) <;> assumption) (by simp) List.nodup_nil (by simp [blks])
  unfold laws_at.f at H
  refine enter Try.func32 rfl Try.ntmps32 rfl fun a hk => ?_
  apply wp_seq_k; intro K1 hK1
  apply wp_region_lit
  refine sa _ rfl hk rfl rfl rfl fun a hk => ?_
  show wpList _ _ _ [] _ _
  refine wpList_nil ?_
  refine hK1 _ _ ?_
  apply wp_seq_k; intro K2 hK2
  apply wp_seq_k; intro K3 hK3
  apply wp_region_lit
  refine sm _ rfl hk rfl rfl rfl fun a hk => ?_
  refine sv (.bool (decide (x2 ≤ 1))) hk rfl rfl rfl fun a hk => ?_
  show wpList _ _ _ [] _ _
  refine wpList_nil ?_
  refine hK3 _ _ ?_
  rcases cond_some H with ⟨c4, H⟩ | ⟨c4, H⟩
  · have hk := hk.lit 8 c4 rfl
    refine cnd_true hk rfl rfl ?_
    apply wp_seq_k; intro K5 hK5
    apply wp_region_lit
    refine sa _ rfl hk rfl rfl rfl fun a hk => ?_
    show wpList _ _ _ [] _ _
    refine wpList_nil ?_
    refine hK5 _ _ ?_
    refine wp_ret ?_
    obtain rfl := Option.some.inj H
    exact fin hk _ [(.int .i64 0)] rfl ⟨rfl, trivial⟩ ⟨rfl, (hs.pick [] rfl).dnil⟩
  · have hk := hk.lit 8 c4 rfl
    refine cnd_false hk rfl rfl ?_
    refine wp_skip ?_
    refine hK2 _ _ ?_
    apply wp_seq_k; intro K6 hK6
    apply wp_seq_k; intro K7 hK7
    apply wp_region_lit
    refine sm _ rfl hk rfl rfl rfl fun a hk => ?_
    refine sle rfl hk rfl rfl rfl un55 fun a hk => ?_
    refine sv (.bool ((l0.length : Int) == 0)) hk rfl rfl rfl fun a hk => ?_
    show wpList _ _ _ [] _ _
    refine wpList_nil ?_
    refine hK7 _ _ ?_
    rcases cond_some H with ⟨c8, H⟩ | ⟨c8, H⟩
    · have hk := hk.lit 11 c8 rfl
      refine cnd_true hk rfl rfl ?_
      apply wp_seq_k; intro K9 hK9
      apply wp_region_lit
      refine sm _ rfl hk rfl rfl rfl fun a hk => ?_
      refine sv (.int .i64 (w64 (x1 * 7))) hk rfl rfl rfl fun a hk => ?_
      refine sm _ rfl hk rfl rfl rfl fun a hk => ?_
      rcases ite_some H with ⟨_, H⟩ | ⟨c10, H⟩
      · cases H
      refine srm rfl hk rfl rfl rfl rfl c10 fun a hk => ?_
      refine sa _ rfl hk rfl rfl rfl fun a hk => ?_
      show wpList _ _ _ [] _ _
      refine wpList_nil ?_
      refine hK9 _ _ ?_
      refine wp_ret ?_
      obtain rfl := Option.some.inj H
      exact fin hk _ [(.int .i64 (Int.tmod (w64 (x1 * 7)) x2))] rfl ⟨rfl, trivial⟩ ⟨rfl, (hs.pick [] rfl).dnil⟩
    · have hk := hk.lit 11 c8 rfl
      refine cnd_false hk rfl rfl ?_
      refine wp_skip ?_
      refine hK6 _ _ ?_
      apply wp_seq_k; intro K11 hK11
      refine wp_region_tree (.q 0 (.q 1 (.q 2 (.q 3 (.q 4 (.q 5 (.q 6 (.q 7 (.q 8 (.q 9 (.q 10 (.q 11 (.q 12 (.q 13 (.q 14 (.q 15 (.q 16 (.q 17 (.q 18 (.q 19 (.q 20 (.q 21 (.q 22 (.q 23 (.alt 24 (.alt 25 (.last 26) .stop) .stop))))))))))))))))))))))))) mo (by kernel_rfl) (hs.pick [] rfl) fun _ => ?_
      have hs := hs.drew
      refine tqst (.slice A0_ l0.length p0_) hk rfl rfl rfl rfl (fun w hs => sm _ rfl hk rfl rfl rfl fun a hk => qe hk) fun a hk => ?_
      refine tqst (.int .i64 x1) hk rfl rfl rfl rfl (fun w hs => sm _ rfl hk rfl rfl rfl fun a hk => qe hk) fun a hk => ?_
      refine tqst (.slice A0_ l0.length p0_) hk rfl rfl rfl rfl (fun w hs => sm _ rfl hk rfl rfl rfl fun a hk => qe hk) fun a hk => ?_
      refine tqst (.int .i64 (l0.length : Int)) hk rfl rfl rfl rfl (fun w hs => sle rfl hk rfl rfl rfl un55 fun a hk => qe hk) fun a hk => ?_
      rcases ite_some H with ⟨_, H⟩ | ⟨c13, H⟩
      · cases H
      refine tqst (.int .i64 (Int.tmod x1 (l0.length : Int))) hk rfl rfl rfl rfl (fun w hs => srm rfl hk rfl rfl rfl rfl c13 fun a hk => qe hk) fun a hk => ?_
      rcases ite_some H with ⟨c14, H⟩ | ⟨_, H⟩
      rotate_left
      · cases H
      obtain ⟨b15, q16, hAc14⟩ := (v0_).some_ (Int.tmod x1 (l0.length : Int)) c14.1 c14.2
      refine tqst (.pointer (some (padd A0_ ((Int.tmod x1 (l0.length : Int)).toNat * 1)))) hk rfl rfl rfl rfl (fun w hs => si rfl hk rfl rfl rfl rfl un55 sz5 c14.1 c14.2 hAc14 fun a hk => qe hk) fun a hk => ?_
      obtain ⟨_, rfl, e17⟩ := (v0_).at_ 0 (Int.tmod x1 (l0.length : Int)) c14.1 c14.2
      refine tqst (.int .u8 (l0.getD (Int.tmod x1 (l0.length : Int)).toNat 0)) hk rfl rfl rfl rfl (fun w hs => sl (v := (.int .u8 (l0.getD (Int.tmod x1 (l0.length : Int)).toNat 0))) rfl hk rfl rfl rfl ag5 ((e17 0 _ rfl).cell (hs.hasD (k := 1) rfl)) fun a hk => qe hk) fun a hk => ?_
      refine tqst (.int .i64 (IntKind.wrap .i64 (l0.getD (Int.tmod x1 (l0.length : Int)).toNat 0))) hk rfl rfl rfl rfl (fun w hs => scn rfl hk rfl rfl rfl un3 un5 fun a hk => qe hk) fun a hk => ?_
      refine tqst (.int .i64 (w64 ((IntKind.wrap .i64 (l0.getD (Int.tmod x1 (l0.length : Int)).toNat 0)) * 31))) hk rfl rfl rfl rfl (fun w hs => sv (.int .i64 (w64 ((IntKind.wrap .i64 (l0.getD (Int.tmod x1 (l0.length : Int)).toNat 0)) * 31))) hk rfl rfl rfl fun a hk => qe hk) fun a hk => ?_
      refine tqst (.slice A0_ l0.length p0_) hk rfl rfl rfl rfl (fun w hs => sm _ rfl hk rfl rfl rfl fun a hk => qe hk) fun a hk => ?_
      refine tqst (.int .i64 x1) hk rfl rfl rfl rfl (fun w hs => sm _ rfl hk rfl rfl rfl fun a hk => qe hk) fun a hk => ?_
      refine tqst (.int .i64 (w64 (x1 + 1))) hk rfl rfl rfl rfl (fun w hs => sv (.int .i64 (w64 (x1 + 1))) hk rfl rfl rfl fun a hk => qe hk) fun a hk => ?_
      refine tqst (.slice A0_ l0.length p0_) hk rfl rfl rfl rfl (fun w hs => sm _ rfl hk rfl rfl rfl fun a hk => qe hk) fun a hk => ?_
      refine tqst (.int .i64 (l0.length : Int)) hk rfl rfl rfl rfl (fun w hs => sle rfl hk rfl rfl rfl un55 fun a hk => qe hk) fun a hk => ?_
      rcases ite_some H with ⟨_, H⟩ | ⟨c18, H⟩
      · cases H
      refine tqst (.int .i64 (Int.tmod (w64 (x1 + 1)) (l0.length : Int))) hk rfl rfl rfl rfl (fun w hs => srm rfl hk rfl rfl rfl rfl c18 fun a hk => qe hk) fun a hk => ?_
      rcases ite_some H with ⟨c19, H⟩ | ⟨_, H⟩
      rotate_left
      · cases H
      obtain ⟨b20, q21, hAc19⟩ := (v0_).some_ (Int.tmod (w64 (x1 + 1)) (l0.length : Int)) c19.1 c19.2
      refine tqst (.pointer (some (padd A0_ ((Int.tmod (w64 (x1 + 1)) (l0.length : Int)).toNat * 1)))) hk rfl rfl rfl rfl (fun w hs => si rfl hk rfl rfl rfl rfl un55 sz5 c19.1 c19.2 hAc19 fun a hk => qe hk) fun a hk => ?_
      obtain ⟨_, rfl, e22⟩ := (v0_).at_ 0 (Int.tmod (w64 (x1 + 1)) (l0.length : Int)) c19.1 c19.2
      refine tqst (.int .u8 (l0.getD (Int.tmod (w64 (x1 + 1)) (l0.length : Int)).toNat 0)) hk rfl rfl rfl rfl (fun w hs => sl (v := (.int .u8 (l0.getD (Int.tmod (w64 (x1 + 1)) (l0.length : Int)).toNat 0))) rfl hk rfl rfl rfl ag5 ((e22 0 _ rfl).cell (hs.hasD (k := 1) rfl)) fun a hk => qe hk) fun a hk => ?_
      refine tqst (.int .i64 (IntKind.wrap .i64 (l0.getD (Int.tmod (w64 (x1 + 1)) (l0.length : Int)).toNat 0))) hk rfl rfl rfl rfl (fun w hs => scn rfl hk rfl rfl rfl un3 un5 fun a hk => qe hk) fun a hk => ?_
      refine tqst (.int .i64 (w64 ((w64 ((IntKind.wrap .i64 (l0.getD (Int.tmod x1 (l0.length : Int)).toNat 0)) * 31)) + (IntKind.wrap .i64 (l0.getD (Int.tmod (w64 (x1 + 1)) (l0.length : Int)).toNat 0))))) hk rfl rfl rfl rfl (fun w hs => sv (.int .i64 (w64 ((w64 ((IntKind.wrap .i64 (l0.getD (Int.tmod x1 (l0.length : Int)).toNat 0)) * 31)) + (IntKind.wrap .i64 (l0.getD (Int.tmod (w64 (x1 + 1)) (l0.length : Int)).toNat 0))))) hk rfl rfl rfl fun a hk => qe hk) fun a hk => ?_
      refine tqst (.int .i64 x1) hk rfl rfl rfl rfl (fun w hs => sm _ rfl hk rfl rfl rfl fun a hk => qe hk) fun a hk => ?_
      refine tqst (.slice A0_ l0.length p0_) hk rfl rfl rfl rfl (fun w hs => sm _ rfl hk rfl rfl rfl fun a hk => qe hk) fun a hk => ?_
      refine tqst (.int .i64 (l0.length : Int)) hk rfl rfl rfl rfl (fun w hs => sle rfl hk rfl rfl rfl un55 fun a hk => qe hk) fun a hk => ?_
      rcases ite_some H with ⟨_, H⟩ | ⟨c23, H⟩
      · cases H
      refine tqst (.int .i64 (IntKind.wrap .i64 (Int.tdiv x1 (l0.length : Int)))) hk rfl rfl rfl rfl (fun w hs => sqo rfl hk rfl rfl rfl rfl c23 fun a hk => qe hk) fun a hk => ?_
      refine tqst (.int .i64 (w64 ((w64 ((w64 ((IntKind.wrap .i64 (l0.getD (Int.tmod x1 (l0.length : Int)).toNat 0)) * 31)) + (IntKind.wrap .i64 (l0.getD (Int.tmod (w64 (x1 + 1)) (l0.length : Int)).toNat 0)))) + (IntKind.wrap .i64 (Int.tdiv x1 (l0.length : Int)))))) hk rfl rfl rfl rfl (fun w hs => sv (.int .i64 (w64 ((w64 ((w64 ((IntKind.wrap .i64 (l0.getD (Int.tmod x1 (l0.length : Int)).toNat 0)) * 31)) + (IntKind.wrap .i64 (l0.getD (Int.tmod (w64 (x1 + 1)) (l0.length : Int)).toNat 0)))) + (IntKind.wrap .i64 (Int.tdiv x1 (l0.length : Int)))))) hk rfl rfl rfl fun a hk => qe hk) fun a hk => ?_
      refine tsst hk rfl rfl (fun K_r12_24 hK_r12_24 w hF => ?_) wt_stop
      have hs := hs.f hF
      refine sm _ rfl hk rfl rfl rfl fun a hk => ?_
      refine se (hs.pick [] rfl) hk (hK_r12_24 _ _ ?_)
      refine tsst hk rfl rfl (fun K_r12_25 hK_r12_25 w hF => ?_) wt_stop
      have hs := hs.f hF
      rcases ite_some H with ⟨_, H⟩ | ⟨c24, H⟩
      · cases H
      refine srm rfl hk rfl rfl rfl rfl c24 fun a hk => ?_
      refine se (hs.pick [] rfl) hk (hK_r12_25 _ _ ?_)
      refine tlst hk rfl rfl fun K_r12_26 hK_r12_26 w hF => ?_
      have hs := hs.f hF
      refine sa _ rfl hk rfl rfl rfl fun a hk => ?_
      refine se trivial hk (hK_r12_26 _ _ fun w hF => ?_)
      have hs := hs.f hF
      refine hK11 _ _ ?_
      refine wp_ret ?_
      obtain rfl := Option.some.inj H
      exact fin hk _ [(.int .i64 (Int.tmod (w64 ((w64 ((w64 ((IntKind.wrap .i64 (l0.getD (Int.tmod x1 (l0.length : Int)).toNat 0)) * 31)) + (IntKind.wrap .i64 (l0.getD (Int.tmod (w64 (x1 + 1)) (l0.length : Int)).toNat 0)))) + (IntKind.wrap .i64 (Int.tdiv x1 (l0.length : Int))))) x2))] rfl ⟨rfl, trivial⟩ ⟨rfl, (hs.pick [] rfl).dnil⟩

noncomputable def laws_sameEntries.s0 (l0 : List S_Entry) (l1 : List S_Entry) (u10 : Int) : Option ((Int) ⊕ Ex (Unit) (Bool)) :=
  (bif (decide (u10 < (l0.length : Int))) then (if 0 ≤ u10 ∧ u10 < (l0.length : Int) then (if 0 ≤ u10 ∧ u10 < (l1.length : Int) then (bif (!((((l0.getD u10.toNat z_Entry).Key) == ((l1.getD u10.toNat z_Entry).Key)) && ((((l0.getD u10.toNat z_Entry).Value) == ((l1.getD u10.toNat z_Entry).Value)) && true))) then (some (.inr (.ret false))) else (some (.inl (w64 (u10 + 1))))) else none) else none) else (some (.inr (.out ()))))
noncomputable def laws_sameEntries.f (l0 : List S_Entry) (l1 : List S_Entry) : Option (Bool) :=
  (bif ((l0.length : Int) != (l1.length : Int)) then (some false) else ((loopO (fun s => laws_sameEntries.s0 l0 l1 s) 0).bind fun o => match o with | .out _ => (some true) | .ret r => (some r)))
set_option maxRecDepth 100000 in
set_option maxHeartbeats 0 in
theorem laws_sameEntries_t (w0 : World) (A0_ : Option Addr) (p0_ : Nat) (l0 : List S_Entry) (k0_ : Chunk) (v0_ : View L_Entry A0_ p0_ l0 k0_) (w0_ : Has w0 k0_) (A1_ : Option Addr) (p1_ : Nat) (l1 : List S_Entry) (k1_ : Chunk) (v1_ : View L_Entry A1_ p1_ l1 k1_) (w1_ : Has w0 k1_) (r : Bool) (H : laws_sameEntries.f l0 l1 = some r) :
    Calls Try.prog 33 #[.slice A0_ l0.length p0_, .slice A1_ l1.length p1_] w0 (Ret (fun v w => v = .bool r ∧ Sat [] w0 w [] [])) := by
  have hs : Sat [] w0 w0 [(1, k0_), (2, k1_)] [] := Sat.init w0 [(1, k0_), (2, k1_)] [] (by simp only [List.mem_cons, List.not_mem_nil, or_false]; rintro x (rfl | rfl) <;> assumption) (by simp) List.nodup_nil (by simp [blks])
  unfold laws_sameEntries.f at H
  refine enter Try.func33 rfl Try.ntmps33 rfl fun a hk => ?_
  apply wp_seq_k; intro K1 hK1
  apply wp_region_lit
  refine sa _ rfl hk rfl rfl rfl fun a hk => ?_
  show wpList _ _ _ [] _ _
  refine wpList_nil ?_
  refine hK1 _ _ ?_
  apply wp_seq_k; intro K2 hK2
  apply wp_seq_k; intro K3 hK3
  apply wp_region_lit
  refine sm _ rfl hk rfl rfl rfl fun a hk => ?_
  refine sle rfl hk rfl rfl rfl un26 fun a hk => ?_
  refine sm _ rfl hk rfl rfl rfl fun a hk => ?_
  refine sle rfl hk rfl rfl rfl un26 fun a hk => ?_
  refine sv (.bool ((l0.length : Int) != (l1.length : Int))) hk rfl rfl rfl fun a hk => ?_
  show wpList _ _ _ [] _ _
  refine wpList_nil ?_
  refine hK3 _ _ ?_
  rcases cond_some H with ⟨c4, H⟩ | ⟨c4, H⟩
  · have hk := hk.lit 10 c4 rfl
    refine cnd_true hk rfl rfl ?_
    apply wp_seq_k; intro K5 hK5
    apply wp_region_lit
    refine sa _ rfl hk rfl rfl rfl fun a hk => ?_
    show wpList _ _ _ [] _ _
    refine wpList_nil ?_
    refine hK5 _ _ ?_
    refine wp_ret ?_
    obtain rfl := Option.some.inj H
    exact fin hk _ [(.bool false)] rfl ⟨rfl, trivial⟩ ⟨rfl, (hs.pick [] rfl).dnil⟩
  · have hk := hk.lit 10 c4 rfl
    refine cnd_false hk rfl rfl ?_
    refine wp_skip ?_
    refine hK2 _ _ ?_
    apply wp_seq_k; intro K6 hK6
    apply wp_seq_k; intro K7 hK7
    apply wp_region_lit
    refine sa _ rfl hk rfl rfl rfl fun a hk => ?_
    show wpList _ _ _ [] _ _
    refine wpList_nil ?_
    refine hK7 _ _ ?_
    obtain ⟨o11, h12, HL13⟩ := bind_some H
    clear H
    obtain ⟨R14, hR14⟩ : ∃ R : Act → World → Prop, R = fun a w => o11 = .out () ∧ Kn [] 26 a ∧ Sat [] w0 w [(1, k0_), (2, k1_)] [] := ⟨_, rfl⟩
    refine wp_cutq R14 ?_ ?_
    · refine wp_block ?_
      obtain ⟨fu16, h12⟩ := loopO_some h12
      obtain ⟨I15, hI15⟩ : ∃ I : Nat → Act → World → Prop, I = fun fu a w => ∃ (u10 : Int), loopN (fun s => laws_sameEntries.s0 l0 l1 s) fu u10 = some o11 ∧ Kn [(0, (.slice A0_ l0.length p0_)), (1, (.slice A1_ l1.length p1_)), (5, (.int .i64 u10))] 26 a ∧ Sat [] w0 w [(1, k0_), (2, k1_)] [] := ⟨_, rfl⟩
      refine wp_loop_ghost I15 fu16 ?_ ?_
      · rw [hI15]
        exact ⟨0, h12, (hk.c 0 rfl (hk.c 1 rfl (hk.c 5 rfl hk.k))), (hs.pick [] rfl)⟩
      · clear h12 hk hs
        intro fu16 a w hI0
        rw [hI15] at hI0
        obtain ⟨u10, hi, hk, hs⟩ := hI0
        obtain ⟨x17, H, h18⟩ := loop_round hi
        try dsimp only at H
        unfold laws_sameEntries.s0 at H
        apply wp_seq_k; intro K19 hK19
        apply wp_seq_k; intro K20 hK20
        apply wp_region_lit
        refine sm _ rfl hk rfl rfl rfl fun a hk => ?_
        refine sm _ rfl hk rfl rfl rfl fun a hk => ?_
        refine sle rfl hk rfl rfl rfl un26 fun a hk => ?_
        refine sv (.bool (decide (u10 < (l0.length : Int)))) hk rfl rfl rfl fun a hk => ?_
        show wpList _ _ _ [] _ _
        refine wpList_nil ?_
        refine hK20 _ _ ?_
        rcases cond_some H with ⟨c21, H⟩ | ⟨c21, H⟩
        · have hk := hk.lit 14 c21 rfl
          refine cnd_true hk rfl rfl ?_
          refine wp_skip ?_
          refine hK19 _ _ ?_
          apply wp_seq_k; intro K22 hK22
          refine wp_block ?_
          apply wp_seq_k; intro K23 hK23
          refine wp_region_tree (.q 0 (.q 1 (.q 2 (.q 3 (.q 4 (.alt 5 (.alt 6 (.alt 7 (.alt 8 .done .stop) .stop) .stop) .stop)))))) mo (by kernel_rfl) (hs.pick [] rfl) fun _ => ?_
          have hs := hs.drew
          refine tqst (.slice A0_ l0.length p0_) hk rfl rfl rfl rfl (fun w hs => sm _ rfl hk rfl rfl rfl fun a hk => qe hk) fun a hk => ?_
          refine tqst (.int .i64 u10) hk rfl rfl rfl rfl (fun w hs => sm _ rfl hk rfl rfl rfl fun a hk => qe hk) fun a hk => ?_
          rcases ite_some H with ⟨c25, H⟩ | ⟨_, H⟩
          rotate_left
          · cases H
          obtain ⟨b26, q27, hAc25⟩ := (v0_).some_ u10 c25.1 c25.2
          refine tqst (.pointer (some (padd A0_ (u10.toNat * 2)))) hk rfl rfl rfl rfl (fun w hs => si rfl hk rfl rfl rfl rfl un26 sz62 c25.1 c25.2 hAc25 fun a hk => qe hk) fun a hk => ?_
          obtain ⟨_, rfl, e28⟩ := (v0_).at_ z_Entry u10 c25.1 c25.2
          refine tqst (.agg #[.int .i64 ((l0.getD u10.toNat z_Entry).Key), .int .i64 ((l0.getD u10.toNat z_Entry).Value)]) hk rfl rfl rfl rfl (fun w hs => sln [.int .i64 ((l0.getD u10.toNat z_Entry).Key), .int .i64 ((l0.getD u10.toNat z_Entry).Value)] rfl hk rfl rfl rfl ag62 sz62 (cells_at e28 (hs.hasD (k := 1) rfl)) fun a hk => qe hk) fun a hk => ?_
          refine tqst (.slice A1_ l1.length p1_) hk rfl rfl rfl rfl (fun w hs => sm _ rfl hk rfl rfl rfl fun a hk => qe hk) fun a hk => ?_
          refine tsst hk rfl rfl (fun K_r24_5 hK_r24_5 w hF => ?_) wt_stop
          have hs := hs.f hF
          refine sm _ rfl hk rfl rfl rfl fun a hk => ?_
          refine se (hs.pick [] rfl) hk (hK_r24_5 _ _ ?_)
          refine tsst hk rfl rfl (fun K_r24_6 hK_r24_6 w hF => ?_) wt_stop
          have hs := hs.f hF
          rcases ite_some H with ⟨c29, H⟩ | ⟨_, H⟩
          rotate_left
          · cases H
          obtain ⟨b30, q31, hAc29⟩ := (v1_).some_ u10 c29.1 c29.2
          refine si rfl hk rfl rfl rfl rfl un26 sz62 c29.1 c29.2 hAc29 fun a hk => ?_
          refine se (hs.pick [] rfl) hk (hK_r24_6 _ _ ?_)
          refine tsst hk rfl rfl (fun K_r24_7 hK_r24_7 w hF => ?_) wt_stop
          have hs := hs.f hF
          obtain ⟨_, rfl, e32⟩ := (v1_).at_ z_Entry u10 c29.1 c29.2
          refine sln [.int .i64 ((l1.getD u10.toNat z_Entry).Key), .int .i64 ((l1.getD u10.toNat z_Entry).Value)] rfl hk rfl rfl rfl ag62 sz62 (cells_at e32 (hs.hasD (k := 2) rfl)) fun a hk => ?_
          refine se (hs.pick [] rfl) hk (hK_r24_7 _ _ ?_)
          refine tsst hk rfl rfl (fun K_r24_8 hK_r24_8 w hF => ?_) wt_stop
          have hs := hs.f hF
          refine snea (r := ((((l0.getD u10.toNat z_Entry).Key) == ((l1.getD u10.toNat z_Entry).Key)) && ((((l0.getD u10.toNat z_Entry).Value) == ((l1.getD u10.toNat z_Entry).Value)) && true))) rfl hk rfl rfl rfl rfl eg62 (eq_agg Try.underlying62 sh62 (eqf_cons rfl ag3 rfl rfl (run_equalIn_int _ _ _ _ _ _ _ un3) (eqf_cons rfl ag3 rfl rfl (run_equalIn_int _ _ _ _ _ _ _ un3) eqf_nil))) fun a hk => ?_
          refine se (hs.pick [] rfl) hk (hK_r24_8 _ _ ?_)
          refine wtl_nil fun w hF _ => ?_
          have hs := hs.f hF
          refine hK23 _ _ ?_
          rcases cond_some H with ⟨c33, H⟩ | ⟨c33, H⟩
          · have hk := hk.lit 25 c33 rfl
            refine cnd_true hk rfl rfl ?_
            apply wp_seq_k; intro K34 hK34
            apply wp_region_lit
            refine sa _ rfl hk rfl rfl rfl fun a hk => ?_
            show wpList _ _ _ [] _ _
            refine wpList_nil ?_
            refine hK34 _ _ ?_
            refine wp_ret ?_
            obtain rfl := Option.some.inj H
            have ho11 := h18
            try dsimp only at ho11
            subst ho11
            have H := HL13
            try dsimp only at H
            obtain rfl := Option.some.inj H
            exact fin hk _ [(.bool false)] rfl ⟨rfl, trivial⟩ ⟨rfl, (hs.pick [] rfl).dnil⟩
          · have hk := hk.lit 25 c33 rfl
            refine cnd_false hk rfl rfl ?_
            refine wp_skip ?_
            refine hK22 _ _ ?_
            apply wp_region_lit
            refine sm _ rfl hk rfl rfl rfl fun a hk => ?_
            refine sv (.int .i64 (w64 (u10 + 1))) hk rfl rfl rfl fun a hk => ?_
            refine sa _ rfl hk rfl rfl rfl fun a hk => ?_
            show wpList _ _ _ [] _ _
            refine wpList_nil ?_
            obtain rfl := Option.some.inj H
            obtain ⟨m35, hmm35, h18⟩ := h18
            show ∃ n', n' < _ ∧ I15 n' _ _
            refine ⟨m35, hmm35, ?_⟩
            rw [hI15]
            exact ⟨(w64 (u10 + 1)), h18, (hk.c 0 rfl (hk.c 1 rfl (hk.c 5 rfl hk.k))), (hs.pick [] rfl)⟩
        · have hk := hk.lit 14 c21 rfl
          refine cnd_false hk rfl rfl ?_
          refine wp_exit ?_
          obtain rfl := Option.some.inj H
          show R14 _ _
          rw [hR14]
          exact ⟨h18.symm, hk.k, (hs.pick [] rfl)⟩
    · intro a w hR0
      rw [hR14] at hR0
      obtain ⟨rfl, hk, hs⟩ := hR0
      have H := HL13
      try dsimp only at H
      refine hK6 _ _ ?_
      apply wp_seq_k; intro K36 hK36
      apply wp_region_lit
      refine sa _ rfl hk rfl rfl rfl fun a hk => ?_
      show wpList _ _ _ [] _ _
      refine wpList_nil ?_
      refine hK36 _ _ ?_
      refine wp_ret ?_
      obtain rfl := Option.some.inj H
      exact fin hk _ [(.bool true)] rfl ⟨rfl, trivial⟩ ⟨rfl, (hs.pick [] rfl).dnil⟩

noncomputable def impl_MapGet.f (l0 : List S_Entry) (x1 : Int) : Option (Int × Int) :=
  (bif (decide ((l0.length : Int) > 4096)) then (some (0, 2)) else ((impl_MapOK.f l0).bind fun y7 => (bif (!y7) then (some (0, 1)) else ((impl_isKey.f x1).bind fun y12 => (bif (!y12) then (some (0, 5)) else ((impl_find.f l0 x1).bind fun y17 => (bif (!y17.2) then (some (0, 5)) else (if 0 ≤ y17.1 ∧ y17.1 < (l0.length : Int) then (some ((l0.getD (y17.1).toNat z_Entry).Value, 0)) else none))))))))
set_option maxRecDepth 100000 in
set_option maxHeartbeats 0 in
theorem impl_MapGet_t (w0 : World) (A0_ : Option Addr) (p0_ : Nat) (l0 : List S_Entry) (k0_ : Chunk) (v0_ : View L_Entry A0_ p0_ l0 k0_) (w0_ : Has w0 k0_) (x1 : Int) (r : Int × Int) (H : impl_MapGet.f l0 x1 = some r) :
    Calls Try.prog 34 #[.slice A0_ l0.length p0_, .int .i64 x1] w0 (Ret (fun v w => v = .tuple #[.int .i64 r.1, .int .i64 r.2] ∧ Sat [] w0 w [] [])) := by
  have hs : Sat [] w0 w0 [(1, k0_)] [] := Sat.init w0 [(1, k0_)] [] (by simp only [List.mem_cons, List.not_mem_nil, or_false]; rintro x (rfl) <;> assumption) (by simp) List.nodup_nil (by simp [blks])
  unfold impl_MapGet.f at H
  refine enter Try.func34 rfl Try.ntmps34 rfl fun a hk => ?_
  apply wp_seq_k; intro K1 hK1
  apply wp_region_lit
  refine sa _ rfl hk rfl rfl rfl fun a hk => ?_
  refine sa _ rfl hk rfl rfl rfl fun a hk => ?_
  show wpList _ _ _ [] _ _
  refine wpList_nil ?_
  refine hK1 _ _ ?_
  apply wp_seq_k; intro K2 hK2
  refine wp_block ?_
  apply wp_seq_k; intro K3 hK3
  apply wp_region_lit
  refine sm _ rfl hk rfl rfl rfl fun a hk => ?_
  refine sle rfl hk rfl rfl rfl un26 fun a hk => ?_
  refine sv (.bool (decide ((l0.length : Int) > 4096))) hk rfl rfl rfl fun a hk => ?_
  refine sa _ rfl hk rfl rfl rfl fun a hk => ?_
  show wpList _ _ _ [] _ _
  refine wpList_nil ?_
  refine hK3 _ _ ?_
  rcases cond_some H with ⟨c4, H⟩ | ⟨c4, H⟩
  · have hk := hk.lit 8 c4 rfl
    refine cnd_true hk rfl rfl ?_
    apply wp_seq_k; intro K5 hK5
    apply wp_region_lit
    refine sa _ rfl hk rfl rfl rfl fun a hk => ?_
    refine sa _ rfl hk rfl rfl rfl fun a hk => ?_
    show wpList _ _ _ [] _ _
    refine wpList_nil ?_
    refine hK5 _ _ ?_
    refine wp_ret ?_
    obtain rfl := Option.some.inj H
    exact fin hk _ [(.int .i64 0), (.int .i64 2)] rfl ⟨rfl, ⟨rfl, trivial⟩⟩ ⟨rfl, (hs.pick [] rfl).dnil⟩
  · have hk := hk.lit 8 c4 rfl
    refine cnd_false hk rfl rfl ?_
    apply wp_seq_k; intro K6 hK6
    apply wp_region_lit
    refine sm _ rfl hk rfl rfl rfl fun a hk => ?_
    obtain ⟨y7, h8, H⟩ := bind_some H
    refine sc rfl en36 hk rfl rfl rfl (impl_MapOK_t _ A0_ p0_ l0 _ v0_ (hs.hasD (k := 1) rfl) _ h8) ?_
    rintro _ w ⟨rfl, hG⟩ a hk
    have hs := hs.call0 hG
    refine sv (.bool (!y7)) hk rfl rfl rfl fun a hk => ?_
    refine sa _ rfl hk rfl rfl rfl fun a hk => ?_
    show wpList _ _ _ [] _ _
    refine wpList_nil ?_
    refine hK6 _ _ ?_
    rcases cond_some H with ⟨c9, H⟩ | ⟨c9, H⟩
    · have hk := hk.lit 12 c9 rfl
      refine cnd_true hk rfl rfl ?_
      apply wp_seq_k; intro K10 hK10
      apply wp_region_lit
      refine sa _ rfl hk rfl rfl rfl fun a hk => ?_
      refine sa _ rfl hk rfl rfl rfl fun a hk => ?_
      show wpList _ _ _ [] _ _
      refine wpList_nil ?_
      refine hK10 _ _ ?_
      refine wp_ret ?_
      obtain rfl := Option.some.inj H
      exact fin hk _ [(.int .i64 0), (.int .i64 1)] rfl ⟨rfl, ⟨rfl, trivial⟩⟩ ⟨rfl, (hs.pick [] rfl).dnil⟩
    · have hk := hk.lit 12 c9 rfl
      refine cnd_false hk rfl rfl ?_
      apply wp_seq_k; intro K11 hK11
      apply wp_region_lit
      refine sm _ rfl hk rfl rfl rfl fun a hk => ?_
      obtain ⟨y12, h13, H⟩ := bind_some H
      refine sc rfl en81 hk rfl rfl rfl (impl_isKey_t _ x1 _ h13) ?_
      rintro _ w ⟨rfl, hG⟩ a hk
      have hs := hs.call0 hG
      refine sv (.bool (!y12)) hk rfl rfl rfl fun a hk => ?_
      refine sa _ rfl hk rfl rfl rfl fun a hk => ?_
      show wpList _ _ _ [] _ _
      refine wpList_nil ?_
      refine hK11 _ _ ?_
      rcases cond_some H with ⟨c14, H⟩ | ⟨c14, H⟩
      · have hk := hk.lit 16 c14 rfl
        refine cnd_true hk rfl rfl ?_
        apply wp_seq_k; intro K15 hK15
        apply wp_region_lit
        refine sa _ rfl hk rfl rfl rfl fun a hk => ?_
        refine sa _ rfl hk rfl rfl rfl fun a hk => ?_
        show wpList _ _ _ [] _ _
        refine wpList_nil ?_
        refine hK15 _ _ ?_
        refine wp_ret ?_
        obtain rfl := Option.some.inj H
        exact fin hk _ [(.int .i64 0), (.int .i64 5)] rfl ⟨rfl, ⟨rfl, trivial⟩⟩ ⟨rfl, (hs.pick [] rfl).dnil⟩
      · have hk := hk.lit 16 c14 rfl
        refine cnd_false hk rfl rfl ?_
        refine wp_skip ?_
        refine hK2 _ _ ?_
        apply wp_seq_k; intro K16 hK16
        apply wp_region_lit
        refine sm _ rfl hk rfl rfl rfl fun a hk => ?_
        refine sm _ rfl hk rfl rfl rfl fun a hk => ?_
        obtain ⟨y17, h18, H⟩ := bind_some H
        refine sc rfl en82 hk rfl rfl rfl (impl_find_t _ A0_ p0_ l0 _ v0_ (hs.hasD (k := 1) rfl) x1 _ h18) ?_
        rintro _ w ⟨rfl, hG⟩ a hk
        have hs := hs.call0 hG
        refine sm _ rfl hk rfl rfl rfl fun a hk => ?_
        refine sv (.int .i64 y17.1) hk rfl rfl rfl fun a hk => ?_
        refine sv (.bool y17.2) hk rfl rfl rfl fun a hk => ?_
        refine sa _ rfl hk rfl rfl rfl fun a hk => ?_
        refine sa _ rfl hk rfl rfl rfl fun a hk => ?_
        show wpList _ _ _ [] _ _
        refine wpList_nil ?_
        refine hK16 _ _ ?_
        apply wp_seq_k; intro K19 hK19
        apply wp_seq_k; intro K20 hK20
        apply wp_region_lit
        refine sm _ rfl hk rfl rfl rfl fun a hk => ?_
        refine sv (.bool (!y17.2)) hk rfl rfl rfl fun a hk => ?_
        show wpList _ _ _ [] _ _
        refine wpList_nil ?_
        refine hK20 _ _ ?_
        rcases cond_some H with ⟨c21, H⟩ | ⟨c21, H⟩
        · have hk := hk.lit 27 c21 rfl
          refine cnd_true hk rfl rfl ?_
          apply wp_seq_k; intro K22 hK22
          apply wp_region_lit
          refine sa _ rfl hk rfl rfl rfl fun a hk => ?_
          refine sa _ rfl hk rfl rfl rfl fun a hk => ?_
          show wpList _ _ _ [] _ _
          refine wpList_nil ?_
          refine hK22 _ _ ?_
          refine wp_ret ?_
          obtain rfl := Option.some.inj H
          exact fin hk _ [(.int .i64 0), (.int .i64 5)] rfl ⟨rfl, ⟨rfl, trivial⟩⟩ ⟨rfl, (hs.pick [] rfl).dnil⟩
        · have hk := hk.lit 27 c21 rfl
          refine cnd_false hk rfl rfl ?_
          refine wp_skip ?_
          refine hK19 _ _ ?_
          apply wp_seq_k; intro K23 hK23
          apply wp_region_lit
          refine sm _ rfl hk rfl rfl rfl fun a hk => ?_
          refine sm _ rfl hk rfl rfl rfl fun a hk => ?_
          rcases ite_some H with ⟨c24, H⟩ | ⟨_, H⟩
          rotate_left
          · cases H
          obtain ⟨b25, q26, hAc24⟩ := (v0_).some_ y17.1 c24.1 c24.2
          refine si rfl hk rfl rfl rfl rfl un26 sz62 c24.1 c24.2 hAc24 fun a hk => ?_
          refine sf (padd A0_ ((y17.1).toNat * 2 + 1)) rfl hk rfl rfl rfl fd62_1 (padd_add _ _ _) fun a hk => ?_
          obtain ⟨_, rfl, e27⟩ := (v0_).at_ z_Entry y17.1 c24.1 c24.2
          refine sl (v := (.int .i64 ((l0.getD (y17.1).toNat z_Entry).Value))) rfl hk rfl rfl rfl ag3 ((e27 1 _ rfl).cell (hs.hasD (k := 1) rfl)) fun a hk => ?_
          refine sa _ rfl hk rfl rfl rfl fun a hk => ?_
          refine sa _ rfl hk rfl rfl rfl fun a hk => ?_
          show wpList _ _ _ [] _ _
          refine wpList_nil ?_
          refine hK23 _ _ ?_
          refine wp_ret ?_
          obtain rfl := Option.some.inj H
          exact fin hk _ [(.int .i64 ((l0.getD (y17.1).toNat z_Entry).Value)), (.int .i64 0)] rfl ⟨rfl, ⟨rfl, trivial⟩⟩ ⟨rfl, (hs.pick [] rfl).dnil⟩

noncomputable def laws_sameInts.s0 (l0 : List Int) (l1 : List Int) (u10 : Int) : Option ((Int) ⊕ Ex (Unit) (Bool)) :=
  (bif (decide (u10 < (l0.length : Int))) then (if 0 ≤ u10 ∧ u10 < (l0.length : Int) then (if 0 ≤ u10 ∧ u10 < (l1.length : Int) then (bif ((l0.getD u10.toNat 0) != (l1.getD u10.toNat 0)) then (some (.inr (.ret false))) else (some (.inl (w64 (u10 + 1))))) else none) else none) else (some (.inr (.out ()))))
noncomputable def laws_sameInts.f (l0 : List Int) (l1 : List Int) : Option (Bool) :=
  (bif ((l0.length : Int) != (l1.length : Int)) then (some false) else ((loopO (fun s => laws_sameInts.s0 l0 l1 s) 0).bind fun o => match o with | .out _ => (some true) | .ret r => (some r)))
set_option maxRecDepth 100000 in
set_option maxHeartbeats 0 in
theorem laws_sameInts_t (w0 : World) (A0_ : Option Addr) (p0_ : Nat) (l0 : List Int) (k0_ : Chunk) (v0_ : View (Lay.int .i64) A0_ p0_ l0 k0_) (w0_ : Has w0 k0_) (A1_ : Option Addr) (p1_ : Nat) (l1 : List Int) (k1_ : Chunk) (v1_ : View (Lay.int .i64) A1_ p1_ l1 k1_) (w1_ : Has w0 k1_) (r : Bool) (H : laws_sameInts.f l0 l1 = some r) :
    Calls Try.prog 35 #[.slice A0_ l0.length p0_, .slice A1_ l1.length p1_] w0 (Ret (fun v w => v = .bool r ∧ Sat [] w0 w [] [])) := by
  have hs : Sat [] w0 w0 [(1, k0_), (2, k1_)] [] := Sat.init w0 [(1, k0_), (2, k1_)] [] (by simp only [List.mem_cons, List.not_mem_nil, or_false]; rintro x (rfl | rfl) <;> assumption) (by simp) List.nodup_nil (by simp [blks])
  unfold laws_sameInts.f at H
  refine enter Try.func35 rfl Try.ntmps35 rfl fun a hk => ?_
  apply wp_seq_k; intro K1 hK1
  apply wp_region_lit
  refine sa _ rfl hk rfl rfl rfl fun a hk => ?_
  show wpList _ _ _ [] _ _
  refine wpList_nil ?_
  refine hK1 _ _ ?_
  apply wp_seq_k; intro K2 hK2
  apply wp_seq_k; intro K3 hK3
  apply wp_region_lit
  refine sm _ rfl hk rfl rfl rfl fun a hk => ?_
  refine sle rfl hk rfl rfl rfl un27 fun a hk => ?_
  refine sm _ rfl hk rfl rfl rfl fun a hk => ?_
  refine sle rfl hk rfl rfl rfl un27 fun a hk => ?_
  refine sv (.bool ((l0.length : Int) != (l1.length : Int))) hk rfl rfl rfl fun a hk => ?_
  show wpList _ _ _ [] _ _
  refine wpList_nil ?_
  refine hK3 _ _ ?_
  rcases cond_some H with ⟨c4, H⟩ | ⟨c4, H⟩
  · have hk := hk.lit 10 c4 rfl
    refine cnd_true hk rfl rfl ?_
    apply wp_seq_k; intro K5 hK5
    apply wp_region_lit
    refine sa _ rfl hk rfl rfl rfl fun a hk => ?_
    show wpList _ _ _ [] _ _
    refine wpList_nil ?_
    refine hK5 _ _ ?_
    refine wp_ret ?_
    obtain rfl := Option.some.inj H
    exact fin hk _ [(.bool false)] rfl ⟨rfl, trivial⟩ ⟨rfl, (hs.pick [] rfl).dnil⟩
  · have hk := hk.lit 10 c4 rfl
    refine cnd_false hk rfl rfl ?_
    refine wp_skip ?_
    refine hK2 _ _ ?_
    apply wp_seq_k; intro K6 hK6
    apply wp_seq_k; intro K7 hK7
    apply wp_region_lit
    refine sa _ rfl hk rfl rfl rfl fun a hk => ?_
    show wpList _ _ _ [] _ _
    refine wpList_nil ?_
    refine hK7 _ _ ?_
    obtain ⟨o11, h12, HL13⟩ := bind_some H
    clear H
    obtain ⟨R14, hR14⟩ : ∃ R : Act → World → Prop, R = fun a w => o11 = .out () ∧ Kn [] 26 a ∧ Sat [] w0 w [(1, k0_), (2, k1_)] [] := ⟨_, rfl⟩
    refine wp_cutq R14 ?_ ?_
    · refine wp_block ?_
      obtain ⟨fu16, h12⟩ := loopO_some h12
      obtain ⟨I15, hI15⟩ : ∃ I : Nat → Act → World → Prop, I = fun fu a w => ∃ (u10 : Int), loopN (fun s => laws_sameInts.s0 l0 l1 s) fu u10 = some o11 ∧ Kn [(0, (.slice A0_ l0.length p0_)), (1, (.slice A1_ l1.length p1_)), (5, (.int .i64 u10))] 26 a ∧ Sat [] w0 w [(1, k0_), (2, k1_)] [] := ⟨_, rfl⟩
      refine wp_loop_ghost I15 fu16 ?_ ?_
      · rw [hI15]
        exact ⟨0, h12, (hk.c 0 rfl (hk.c 1 rfl (hk.c 5 rfl hk.k))), (hs.pick [] rfl)⟩
      · clear h12 hk hs
        intro fu16 a w hI0
        rw [hI15] at hI0
        obtain ⟨u10, hi, hk, hs⟩ := hI0
        obtain ⟨x17, H, h18⟩ := loop_round hi
        try dsimp only at H
        unfold laws_sameInts.s0 at H
        apply wp_seq_k; intro K19 hK19
        apply wp_seq_k; intro K20 hK20
        apply wp_region_lit
        refine sm _ rfl hk rfl rfl rfl fun a hk => ?_
        refine sm _ rfl hk rfl rfl rfl fun a hk => ?_
        refine sle rfl hk rfl rfl rfl un27 fun a hk => ?_
        refine sv (.bool (decide (u10 < (l0.length : Int)))) hk rfl rfl rfl fun a hk => ?_
        show wpList _ _ _ [] _ _
        refine wpList_nil ?_
        refine hK20 _ _ ?_
        rcases cond_some H with ⟨c21, H⟩ | ⟨c21, H⟩
        · have hk := hk.lit 14 c21 rfl
          refine cnd_true hk rfl rfl ?_
          refine wp_skip ?_
          refine hK19 _ _ ?_
          apply wp_seq_k; intro K22 hK22
          refine wp_block ?_
          apply wp_seq_k; intro K23 hK23
          refine wp_region_tree (.q 0 (.q 1 (.q 2 (.q 3 (.q 4 (.alt 5 (.alt 6 (.alt 7 (.alt 8 .done .stop) .stop) .stop) .stop)))))) mo (by kernel_rfl) (hs.pick [] rfl) fun _ => ?_
          have hs := hs.drew
          refine tqst (.slice A0_ l0.length p0_) hk rfl rfl rfl rfl (fun w hs => sm _ rfl hk rfl rfl rfl fun a hk => qe hk) fun a hk => ?_
          refine tqst (.int .i64 u10) hk rfl rfl rfl rfl (fun w hs => sm _ rfl hk rfl rfl rfl fun a hk => qe hk) fun a hk => ?_
          rcases ite_some H with ⟨c25, H⟩ | ⟨_, H⟩
          rotate_left
          · cases H
          obtain ⟨b26, q27, hAc25⟩ := (v0_).some_ u10 c25.1 c25.2
          refine tqst (.pointer (some (padd A0_ (u10.toNat * 1)))) hk rfl rfl rfl rfl (fun w hs => si rfl hk rfl rfl rfl rfl un27 sz3 c25.1 c25.2 hAc25 fun a hk => qe hk) fun a hk => ?_
          obtain ⟨_, rfl, e28⟩ := (v0_).at_ 0 u10 c25.1 c25.2
          refine tqst (.int .i64 (l0.getD u10.toNat 0)) hk rfl rfl rfl rfl (fun w hs => sl (v := (.int .i64 (l0.getD u10.toNat 0))) rfl hk rfl rfl rfl ag3 ((e28 0 _ rfl).cell (hs.hasD (k := 1) rfl)) fun a hk => qe hk) fun a hk => ?_
          refine tqst (.slice A1_ l1.length p1_) hk rfl rfl rfl rfl (fun w hs => sm _ rfl hk rfl rfl rfl fun a hk => qe hk) fun a hk => ?_
          refine tsst hk rfl rfl (fun K_r24_5 hK_r24_5 w hF => ?_) wt_stop
          have hs := hs.f hF
          refine sm _ rfl hk rfl rfl rfl fun a hk => ?_
          refine se (hs.pick [] rfl) hk (hK_r24_5 _ _ ?_)
          refine tsst hk rfl rfl (fun K_r24_6 hK_r24_6 w hF => ?_) wt_stop
          have hs := hs.f hF
          rcases ite_some H with ⟨c29, H⟩ | ⟨_, H⟩
          rotate_left
          · cases H
          obtain ⟨b30, q31, hAc29⟩ := (v1_).some_ u10 c29.1 c29.2
          refine si rfl hk rfl rfl rfl rfl un27 sz3 c29.1 c29.2 hAc29 fun a hk => ?_
          refine se (hs.pick [] rfl) hk (hK_r24_6 _ _ ?_)
          refine tsst hk rfl rfl (fun K_r24_7 hK_r24_7 w hF => ?_) wt_stop
          have hs := hs.f hF
          obtain ⟨_, rfl, e32⟩ := (v1_).at_ 0 u10 c29.1 c29.2
          refine sl (v := (.int .i64 (l1.getD u10.toNat 0))) rfl hk rfl rfl rfl ag3 ((e32 0 _ rfl).cell (hs.hasD (k := 2) rfl)) fun a hk => ?_
          refine se (hs.pick [] rfl) hk (hK_r24_7 _ _ ?_)
          refine tsst hk rfl rfl (fun K_r24_8 hK_r24_8 w hF => ?_) wt_stop
          have hs := hs.f hF
          refine sv (.bool ((l0.getD u10.toNat 0) != (l1.getD u10.toNat 0))) hk rfl rfl rfl fun a hk => ?_
          refine se (hs.pick [] rfl) hk (hK_r24_8 _ _ ?_)
          refine wtl_nil fun w hF _ => ?_
          have hs := hs.f hF
          refine hK23 _ _ ?_
          rcases cond_some H with ⟨c33, H⟩ | ⟨c33, H⟩
          · have hk := hk.lit 25 c33 rfl
            refine cnd_true hk rfl rfl ?_
            apply wp_seq_k; intro K34 hK34
            apply wp_region_lit
            refine sa _ rfl hk rfl rfl rfl fun a hk => ?_
            show wpList _ _ _ [] _ _
            refine wpList_nil ?_
            refine hK34 _ _ ?_
            refine wp_ret ?_
            obtain rfl := Option.some.inj H
            have ho11 := h18
            try dsimp only at ho11
            subst ho11
            have H := HL13
            try dsimp only at H
            obtain rfl := Option.some.inj H
            exact fin hk _ [(.bool false)] rfl ⟨rfl, trivial⟩ ⟨rfl, (hs.pick [] rfl).dnil⟩
          · have hk := hk.lit 25 c33 rfl
            refine cnd_false hk rfl rfl ?_
            refine wp_skip ?_
            refine hK22 _ _ ?_
            apply wp_region_lit
            refine sm _ rfl hk rfl rfl rfl fun a hk => ?_
            refine sv (.int .i64 (w64 (u10 + 1))) hk rfl rfl rfl fun a hk => ?_
            refine sa _ rfl hk rfl rfl rfl fun a hk => ?_
            show wpList _ _ _ [] _ _
            refine wpList_nil ?_
            obtain rfl := Option.some.inj H
            obtain ⟨m35, hmm35, h18⟩ := h18
            show ∃ n', n' < _ ∧ I15 n' _ _
            refine ⟨m35, hmm35, ?_⟩
            rw [hI15]
            exact ⟨(w64 (u10 + 1)), h18, (hk.c 0 rfl (hk.c 1 rfl (hk.c 5 rfl hk.k))), (hs.pick [] rfl)⟩
        · have hk := hk.lit 14 c21 rfl
          refine cnd_false hk rfl rfl ?_
          refine wp_exit ?_
          obtain rfl := Option.some.inj H
          show R14 _ _
          rw [hR14]
          exact ⟨h18.symm, hk.k, (hs.pick [] rfl)⟩
    · intro a w hR0
      rw [hR14] at hR0
      obtain ⟨rfl, hk, hs⟩ := hR0
      have H := HL13
      try dsimp only at H
      refine hK6 _ _ ?_
      apply wp_seq_k; intro K36 hK36
      apply wp_region_lit
      refine sa _ rfl hk rfl rfl rfl fun a hk => ?_
      show wpList _ _ _ [] _ _
      refine wpList_nil ?_
      refine hK36 _ _ ?_
      refine wp_ret ?_
      obtain rfl := Option.some.inj H
      exact fin hk _ [(.bool true)] rfl ⟨rfl, trivial⟩ ⟨rfl, (hs.pick [] rfl).dnil⟩

noncomputable def laws_FnMap.s0 (y14 : (List S_Entry)) (y21 : Int) (y63 : (List S_Entry) × (List Int) × Int) (u136 : Int) : Option ((Int) ⊕ Ex (Unit) (Bool)) :=
  (bif (decide (u136 < (y14.length : Int))) then (if 0 ≤ u136 ∧ u136 < (y14.length : Int) then ((impl_MapGet.f y63.1 ((y14.getD u136.toNat z_Entry).Key)).bind fun y154 => (((if 0 ≤ u136 ∧ u136 < (y14.length : Int) then (bif (((y14.getD u136.toNat z_Entry).Key) != (w64 (1 + y21))) then (bif (y154.2 != 0) then (some true) else (if 0 ≤ u136 ∧ u136 < (y14.length : Int) then (some (y154.1 != ((y14.getD u136.toNat z_Entry).Value))) else none)) else (some false)) else none) : Option (Bool)).bind fun u158 => (bif u158 then (some (.inr (.ret false))) else (some (.inl (w64 (u136 + 1))))))) else none) else (some (.inr (.out ()))))
noncomputable def laws_FnMap.f (l0 : List Int) (l1 : List Int) : Option (Bool) :=
  (((bif (decide ((l0.length : Int) > 1048576)) then (some true) else (some (decide ((l1.length : Int) > 1048576)))) : Option (Bool)).bind fun u5 => (bif u5 then (some true) else ((spec_EntriesOf.f l0).bind fun y14 => ((laws_at.f l1 0 20).bind fun y21 => ((laws_at.f l1 1 900).bind fun y24 => ((impl_MapDo.f y14 (⟨2, (w64 (1 + y21)), y24⟩ : S_Op)).bind fun y27 => (bif (y27.2.2 != 0) then (((bif (y27.2.2 == 7) then (bif ((y14.length : Int) == 11) then ((laws_sameEntries.f y27.1 y14).bind fun y49 => (some y49)) else (some false)) else (some false)) : Option (Bool)).bind fun u42 => (some u42)) else ((impl_MapDo.f y27.1 (⟨1, (w64 (1 + y21)), 0⟩ : S_Op)).bind fun y52 => ((impl_MapDo.f y27.1 (⟨3, (w64 (1 + y21)), 0⟩ : S_Op)).bind fun y63 => ((impl_MapDo.f y63.1 (⟨1, (w64 (1 + y21)), 0⟩ : S_Op)).bind fun y74 => ((impl_MapGet.f y27.1 (w64 (1 + y21))).bind fun y85 => ((impl_MapGet.f y63.1 (w64 (1 + y21))).bind fun y88 => (((bif (y52.2.2 != 0) then (some true) else ((laws_sameEntries.f y27.1 y52.1).bind fun y99 => (bif (!y99) then (some true) else ((laws_sameInts.f y52.2.1 ([1, y24])).bind fun y105 => (bif (!y105) then (some true) else (bif (y63.2.2 != 0) then (some true) else ((laws_sameInts.f y63.2.1 ([1])).bind fun y112 => (bif (!y112) then (some true) else (bif (y74.2.2 != 0) then (some true) else ((laws_sameInts.f y74.2.1 ([0, 0])).bind fun y119 => (bif (!y119) then (some true) else (bif (y85.2 != 0) then (some true) else (bif (y85.1 != y24) then (some true) else (bif (y88.2 != 5) then (some true) else ((impl_MapOK.f y27.1).bind fun y125 => (bif (!y125) then (some true) else ((impl_MapOK.f y63.1).bind fun y128 => (some (!y128))))))))))))))))))) : Option (Bool)).bind fun u93 => (bif u93 then (some false) else ((loopO (fun s => laws_FnMap.s0 y14 y21 y63 s) 0).bind fun o => match o with | .out _ => (some true) | .ret r => (some r))))))))))))))))
set_option maxRecDepth 100000 in
set_option maxHeartbeats 0 in
theorem laws_FnMap_t (w0 : World) (A0_ : Option Addr) (p0_ : Nat) (l0 : List Int) (k0_ : Chunk) (v0_ : View (Lay.int .u8) A0_ p0_ l0 k0_) (w0_ : Has w0 k0_) (A1_ : Option Addr) (p1_ : Nat) (l1 : List Int) (k1_ : Chunk) (v1_ : View (Lay.int .u8) A1_ p1_ l1 k1_) (w1_ : Has w0 k1_) (r : Bool) (H : laws_FnMap.f l0 l1 = some r) :
    Calls Try.prog 5 #[.slice A0_ l0.length p0_, .slice A1_ l1.length p1_] w0 (Ret (fun v w => v = .bool r ∧ Sat [] w0 w [] [])) := by
  have hs : Sat [] w0 w0 [(1, k0_), (2, k1_)] [] := Sat.init w0 [(1, k0_), (2, k1_)] [] (by simp only [List.mem_cons, List.not_mem_nil, or_false]; rintro x (rfl | rfl) <;> assumption) (by simp) List.nodup_nil (by simp [blks])
  unfold laws_FnMap.f at H
  refine enter Try.func5 rfl Try.ntmps5 rfl fun a hk => ?_
  apply wp_seq_k; intro K1 hK1
  apply wp_region_lit
  refine sa _ rfl hk rfl rfl rfl fun a hk => ?_
  show wpList _ _ _ [] _ _
  refine wpList_nil ?_
  refine hK1 _ _ ?_
  apply wp_seq_k; intro K2 hK2
  apply wp_seq_k; intro K3 hK3
  obtain ⟨o6, h7, HL8⟩ := bind_some H
  clear H
  obtain ⟨R9, hR9⟩ : ∃ R : Act → World → Prop, R = fun a w => ∃ (u5 : Bool), u5 = o6 ∧ Kn [(0, (.slice A0_ l0.length p0_)), (1, (.slice A1_ l1.length p1_)), (34, (.bool u5))] 195 a ∧ Sat [] w0 w [(1, k0_), (2, k1_)] [] := ⟨_, rfl⟩
  refine wp_cutq R9 ?_ ?_
  · have H := h7
    apply wp_region_lit
    refine sm _ rfl hk rfl rfl rfl fun a hk => ?_
    refine sle rfl hk rfl rfl rfl un55 fun a hk => ?_
    refine sv (.bool (decide ((l0.length : Int) > 1048576))) hk rfl rfl rfl fun a hk => ?_
    refine sm _ rfl hk rfl rfl rfl fun a hk => ?_
    rcases cond_some H with ⟨c10, H⟩ | ⟨c10, H⟩
    · have hk := hk.lit 30 c10 rfl
      refine sk hk rfl rfl rfl fun a hk => ?_
      refine sk hk rfl rfl rfl fun a hk => ?_
      refine sk hk rfl rfl rfl fun a hk => ?_
      refine sv (.bool true) hk rfl rfl rfl fun a hk => ?_
      show wpList _ _ _ [] _ _
      refine wpList_nil ?_
      obtain rfl := Option.some.inj H
      show R9 _ _
      rw [hR9]
      exact ⟨true, rfl, (hk.c 0 rfl (hk.c 1 rfl (hk.c 34 rfl hk.k))), (hs.pick [] rfl)⟩
    · have hk := hk.lit 30 c10 rfl
      refine sm _ rfl hk rfl rfl rfl fun a hk => ?_
      refine sle rfl hk rfl rfl rfl un55 fun a hk => ?_
      refine sv (.bool (decide ((l1.length : Int) > 1048576))) hk rfl rfl rfl fun a hk => ?_
      refine sv (.bool (decide ((l1.length : Int) > 1048576))) hk rfl rfl rfl fun a hk => ?_
      show wpList _ _ _ [] _ _
      refine wpList_nil ?_
      obtain rfl := Option.some.inj H
      show R9 _ _
      rw [hR9]
      exact ⟨(decide ((l1.length : Int) > 1048576)), rfl, (hk.c 0 rfl (hk.c 1 rfl (hk.c 34 rfl hk.k))), (hs.pick [] rfl)⟩
  · intro a w hR0
    rw [hR9] at hR0
    obtain ⟨u5, rfl, hk, hs⟩ := hR0
    have H := HL8
    try dsimp only at H
    refine hK3 _ _ ?_
    rcases cond_some H with ⟨c11, H⟩ | ⟨c11, H⟩
    · have hk := hk.lit 34 c11 rfl
      refine cnd_true hk rfl rfl ?_
      apply wp_seq_k; intro K12 hK12
      apply wp_region_lit
      refine sa _ rfl hk rfl rfl rfl fun a hk => ?_
      show wpList _ _ _ [] _ _
      refine wpList_nil ?_
      refine hK12 _ _ ?_
      refine wp_ret ?_
      obtain rfl := Option.some.inj H
      exact fin hk _ [(.bool true)] rfl ⟨rfl, trivial⟩ ⟨rfl, (hs.pick [] rfl).dnil⟩
    · have hk := hk.lit 34 c11 rfl
      refine cnd_false hk rfl rfl ?_
      refine wp_skip ?_
      refine hK2 _ _ ?_
      apply wp_seq_k; intro K13 hK13
      apply wp_region_lit
      refine sm _ rfl hk rfl rfl rfl fun a hk => ?_
      obtain ⟨y14, h15, H⟩ := bind_some H
      refine sc rfl en31 hk rfl rfl rfl (spec_EntriesOf_t _ A0_ p0_ l0 _ v0_ (hs.hasD (k := 1) rfl) _ h15) ?_
      rintro _ w ⟨A17, p18, k16, rfl, v19, hG⟩ a hk
      have hs := hs.call0k hG [4] rfl
      refine sa _ rfl hk rfl rfl rfl fun a hk => ?_
      show wpList _ _ _ [] _ _
      refine wpList_nil ?_
      refine hK13 _ _ ?_
      apply wp_seq_k; intro K20 hK20
      apply wp_region_lit
      refine sm _ rfl hk rfl rfl rfl fun a hk => ?_
      obtain ⟨y21, h22, H⟩ := bind_some H
      refine sc rfl en32 hk rfl rfl rfl (laws_at_t _ A1_ p1_ l1 _ v1_ (hs.hasD (k := 2) rfl) 0 20 _ h22) ?_
      rintro _ w ⟨rfl, hG⟩ a hk
      have hs := hs.call0 hG
      refine sv (.int .i64 (w64 (1 + y21))) hk rfl rfl rfl fun a hk => ?_
      refine sa _ rfl hk rfl rfl rfl fun a hk => ?_
      show wpList _ _ _ [] _ _
      refine wpList_nil ?_
      refine hK20 _ _ ?_
      apply wp_seq_k; intro K23 hK23
      apply wp_region_lit
      refine sm _ rfl hk rfl rfl rfl fun a hk => ?_
      obtain ⟨y24, h25, H⟩ := bind_some H
      refine sc rfl en32 hk rfl rfl rfl (laws_at_t _ A1_ p1_ l1 _ v1_ (hs.hasD (k := 2) rfl) 1 900 _ h25) ?_
      rintro _ w ⟨rfl, hG⟩ a hk
      have hs := hs.call0 hG
      refine sa _ rfl hk rfl rfl rfl fun a hk => ?_
      show wpList _ _ _ [] _ _
      refine wpList_nil ?_
      refine hK23 _ _ ?_
      apply wp_seq_k; intro K26 hK26
      apply wp_region_lit
      refine sm _ rfl hk rfl rfl rfl fun a hk => ?_
      refine sm _ rfl hk rfl rfl rfl fun a hk => ?_
      refine sm _ rfl hk rfl rfl rfl fun a hk => ?_
      refine sbd (pv := [(0, (.int .i64 2)), (1, (.int .i64 (w64 (1 + y21)))), (2, (.int .i64 y24))]) rfl hk rfl rfl rfl (bd31_13 2 (w64 (1 + y21)) y24) fun a hk => ?_
      obtain ⟨y27, h28, H⟩ := bind_some H
      refine sc rfl en15 hk rfl rfl rfl (impl_MapDo_t _ A17 p18 y14 _ v19 (Has.app (hs.hasD (k := 1) rfl) (hs.hasG (k := 4) rfl)) (⟨2, (w64 (1 + y21)), y24⟩ : S_Op) _ h28) ?_
      rintro _ w ⟨A29, p30, k31, A33, p34, k35, rfl, o32, o36, hG⟩ a hk
      have hs := hs.call0k hG [5, 6] rfl
      refine sm _ rfl hk rfl rfl rfl fun a hk => ?_
      refine sv (.slice A29 y27.1.length p30) hk rfl rfl rfl fun a hk => ?_
      refine sv (.slice A33 y27.2.1.length p34) hk rfl rfl rfl fun a hk => ?_
      refine sv (.int .i64 y27.2.2) hk rfl rfl rfl fun a hk => ?_
      refine sa _ rfl hk rfl rfl rfl fun a hk => ?_
      refine sa _ rfl hk rfl rfl rfl fun a hk => ?_
      refine sa _ rfl hk rfl rfl rfl fun a hk => ?_
      show wpList _ _ _ [] _ _
      refine wpList_nil ?_
      refine hK26 _ _ ?_
      apply wp_seq_k; intro K37 hK37
      apply wp_seq_k; intro K38 hK38
      apply wp_region_lit
      refine sm _ rfl hk rfl rfl rfl fun a hk => ?_
      refine sv (.bool (y27.2.2 != 0)) hk rfl rfl rfl fun a hk => ?_
      show wpList _ _ _ [] _ _
      refine wpList_nil ?_
      refine hK38 _ _ ?_
      rcases cond_some H with ⟨c39, H⟩ | ⟨c39, H⟩
      · have hk := hk.lit 52 c39 rfl
        refine cnd_true hk rfl rfl ?_
        apply wp_seq_k; intro K40 hK40
        obtain ⟨o43, h44, HL45⟩ := bind_some H
        clear H
        obtain ⟨R46, hR46⟩ : ∃ R : Act → World → Prop, R = fun a w => ∃ (u42 : Bool), u42 = o43 ∧ Kn [(4, (.bool u42))] 195 a ∧ Sat [] w0 w [(1, k0_), (2, k1_)] [] := ⟨_, rfl⟩
        refine wp_cutq R46 ?_ ?_
        · have H := h44
          apply wp_region_lit
          refine sm _ rfl hk rfl rfl rfl fun a hk => ?_
          refine sv (.bool (y27.2.2 == 7)) hk rfl rfl rfl fun a hk => ?_
          refine sm _ rfl hk rfl rfl rfl fun a hk => ?_
          rcases cond_some H with ⟨c47, H⟩ | ⟨c47, H⟩
          · have hk := hk.lit 55 c47 rfl
            refine sm _ rfl hk rfl rfl rfl fun a hk => ?_
            refine sle rfl hk rfl rfl rfl un26 fun a hk => ?_
            refine sv (.bool ((y14.length : Int) == 11)) hk rfl rfl rfl fun a hk => ?_
            refine sv (.bool ((y14.length : Int) == 11)) hk rfl rfl rfl fun a hk => ?_
            refine sm _ rfl hk rfl rfl rfl fun a hk => ?_
            rcases cond_some H with ⟨c48, H⟩ | ⟨c48, H⟩
            · have hk := hk.lit 60 c48 rfl
              refine sm _ rfl hk rfl rfl rfl fun a hk => ?_
              refine sm _ rfl hk rfl rfl rfl fun a hk => ?_
              obtain ⟨y49, h50, H⟩ := bind_some H
              refine sc rfl en33 hk rfl rfl rfl (laws_sameEntries_t _ A29 p30 y27.1 _ o32.view (hs.hasG (k := 5) rfl) A17 p18 y14 _ v19 (Has.app (hs.hasD (k := 1) rfl) (hs.hasG (k := 4) rfl)) _ h50) ?_
              rintro _ w ⟨rfl, hG⟩ a hk
              have hs := hs.call0 hG
              refine sv (.bool y49) hk rfl rfl rfl fun a hk => ?_
              refine sa _ rfl hk rfl rfl rfl fun a hk => ?_
              show wpList _ _ _ [] _ _
              refine wpList_nil ?_
              obtain rfl := Option.some.inj H
              show R46 _ _
              rw [hR46]
              exact ⟨y49, rfl, (hk.c 4 rfl hk.k), (hs.pick [] rfl)⟩
            · have hk := hk.lit 60 c48 rfl
              refine sk hk rfl rfl rfl fun a hk => ?_
              refine sk hk rfl rfl rfl fun a hk => ?_
              refine sk hk rfl rfl rfl fun a hk => ?_
              refine sv (.bool false) hk rfl rfl rfl fun a hk => ?_
              refine sa _ rfl hk rfl rfl rfl fun a hk => ?_
              show wpList _ _ _ [] _ _
              refine wpList_nil ?_
              obtain rfl := Option.some.inj H
              show R46 _ _
              rw [hR46]
              exact ⟨false, rfl, (hk.c 4 rfl hk.k), (hs.pick [] rfl)⟩
          · have hk := hk.lit 55 c47 rfl
            refine sk hk rfl rfl rfl fun a hk => ?_
            refine sk hk rfl rfl rfl fun a hk => ?_
            refine sk hk rfl rfl rfl fun a hk => ?_
            refine sv (.bool false) hk rfl rfl rfl fun a hk => ?_
            refine sm _ rfl hk rfl rfl rfl fun a hk => ?_
            refine sk hk rfl rfl rfl fun a hk => ?_
            refine sk hk rfl rfl rfl fun a hk => ?_
            refine sk hk rfl rfl rfl fun a hk => ?_
            refine sv (.bool false) hk rfl rfl rfl fun a hk => ?_
            refine sa _ rfl hk rfl rfl rfl fun a hk => ?_
            show wpList _ _ _ [] _ _
            refine wpList_nil ?_
            obtain rfl := Option.some.inj H
            show R46 _ _
            rw [hR46]
            exact ⟨false, rfl, (hk.c 4 rfl hk.k), (hs.pick [] rfl)⟩
        · intro a w hR0
          rw [hR46] at hR0
          obtain ⟨u42, rfl, hk, hs⟩ := hR0
          have H := HL45
          try dsimp only at H
          refine hK40 _ _ ?_
          refine wp_ret ?_
          obtain rfl := Option.some.inj H
          exact fin hk _ [(.bool u42)] rfl ⟨rfl, trivial⟩ ⟨rfl, (hs.pick [] rfl).dnil⟩
      · have hk := hk.lit 52 c39 rfl
        refine cnd_false hk rfl rfl ?_
        refine wp_skip ?_
        refine hK37 _ _ ?_
        apply wp_seq_k; intro K51 hK51
        apply wp_region_lit
        refine sm _ rfl hk rfl rfl rfl fun a hk => ?_
        refine sm _ rfl hk rfl rfl rfl fun a hk => ?_
        refine sbd (pv := [(0, (.int .i64 1)), (1, (.int .i64 (w64 (1 + y21))))]) rfl hk rfl rfl rfl (bd31_9 1 (w64 (1 + y21))) fun a hk => ?_
        obtain ⟨y52, h53, H⟩ := bind_some H
        refine sc rfl en15 hk rfl rfl rfl (impl_MapDo_t _ A29 p30 y27.1 _ o32.view (hs.hasG (k := 5) rfl) (⟨1, (w64 (1 + y21)), 0⟩ : S_Op) _ h53) ?_
        rintro _ w ⟨A54, p55, k56, A58, p59, k60, rfl, o57, o61, hG⟩ a hk
        have hs := hs.call0k hG [8, 9] rfl
        refine sm _ rfl hk rfl rfl rfl fun a hk => ?_
        refine sv (.slice A54 y52.1.length p55) hk rfl rfl rfl fun a hk => ?_
        refine sv (.slice A58 y52.2.1.length p59) hk rfl rfl rfl fun a hk => ?_
        refine sv (.int .i64 y52.2.2) hk rfl rfl rfl fun a hk => ?_
        refine sa _ rfl hk rfl rfl rfl fun a hk => ?_
        refine sa _ rfl hk rfl rfl rfl fun a hk => ?_
        refine sa _ rfl hk rfl rfl rfl fun a hk => ?_
        show wpList _ _ _ [] _ _
        refine wpList_nil ?_
        refine hK51 _ _ ?_
        apply wp_seq_k; intro K62 hK62
        apply wp_region_lit
        refine sm _ rfl hk rfl rfl rfl fun a hk => ?_
        refine sm _ rfl hk rfl rfl rfl fun a hk => ?_
        refine sbd (pv := [(0, (.int .i64 3)), (1, (.int .i64 (w64 (1 + y21))))]) rfl hk rfl rfl rfl (bd31_9 3 (w64 (1 + y21))) fun a hk => ?_
        obtain ⟨y63, h64, H⟩ := bind_some H
        refine sc rfl en15 hk rfl rfl rfl (impl_MapDo_t _ A29 p30 y27.1 _ o32.view (hs.hasG (k := 5) rfl) (⟨3, (w64 (1 + y21)), 0⟩ : S_Op) _ h64) ?_
        rintro _ w ⟨A65, p66, k67, A69, p70, k71, rfl, o68, o72, hG⟩ a hk
        have hs := hs.call0k hG [10, 11] rfl
        refine sm _ rfl hk rfl rfl rfl fun a hk => ?_
        refine sv (.slice A65 y63.1.length p66) hk rfl rfl rfl fun a hk => ?_
        refine sv (.slice A69 y63.2.1.length p70) hk rfl rfl rfl fun a hk => ?_
        refine sv (.int .i64 y63.2.2) hk rfl rfl rfl fun a hk => ?_
        refine sa _ rfl hk rfl rfl rfl fun a hk => ?_
        refine sa _ rfl hk rfl rfl rfl fun a hk => ?_
        refine sa _ rfl hk rfl rfl rfl fun a hk => ?_
        show wpList _ _ _ [] _ _
        refine wpList_nil ?_
        refine hK62 _ _ ?_
        apply wp_seq_k; intro K73 hK73
        apply wp_region_lit
        refine sm _ rfl hk rfl rfl rfl fun a hk => ?_
        refine sm _ rfl hk rfl rfl rfl fun a hk => ?_
        refine sbd (pv := [(0, (.int .i64 1)), (1, (.int .i64 (w64 (1 + y21))))]) rfl hk rfl rfl rfl (bd31_9 1 (w64 (1 + y21))) fun a hk => ?_
        obtain ⟨y74, h75, H⟩ := bind_some H
        refine sc rfl en15 hk rfl rfl rfl (impl_MapDo_t _ A65 p66 y63.1 _ o68.view (hs.hasG (k := 10) rfl) (⟨1, (w64 (1 + y21)), 0⟩ : S_Op) _ h75) ?_
        rintro _ w ⟨A76, p77, k78, A80, p81, k82, rfl, o79, o83, hG⟩ a hk
        have hs := hs.call0k hG [12, 13] rfl
        refine sm _ rfl hk rfl rfl rfl fun a hk => ?_
        refine sv (.slice A76 y74.1.length p77) hk rfl rfl rfl fun a hk => ?_
        refine sv (.slice A80 y74.2.1.length p81) hk rfl rfl rfl fun a hk => ?_
        refine sv (.int .i64 y74.2.2) hk rfl rfl rfl fun a hk => ?_
        refine sa _ rfl hk rfl rfl rfl fun a hk => ?_
        refine sa _ rfl hk rfl rfl rfl fun a hk => ?_
        refine sa _ rfl hk rfl rfl rfl fun a hk => ?_
        show wpList _ _ _ [] _ _
        refine wpList_nil ?_
        refine hK73 _ _ ?_
        apply wp_seq_k; intro K84 hK84
        apply wp_region_lit
        refine sm _ rfl hk rfl rfl rfl fun a hk => ?_
        refine sm _ rfl hk rfl rfl rfl fun a hk => ?_
        obtain ⟨y85, h86, H⟩ := bind_some H
        refine sc rfl en34 hk rfl rfl rfl (impl_MapGet_t _ A29 p30 y27.1 _ o32.view (hs.hasG (k := 5) rfl) (w64 (1 + y21)) _ h86) ?_
        rintro _ w ⟨rfl, hG⟩ a hk
        have hs := hs.call0 hG
        refine sm _ rfl hk rfl rfl rfl fun a hk => ?_
        refine sv (.int .i64 y85.1) hk rfl rfl rfl fun a hk => ?_
        refine sv (.int .i64 y85.2) hk rfl rfl rfl fun a hk => ?_
        refine sa _ rfl hk rfl rfl rfl fun a hk => ?_
        refine sa _ rfl hk rfl rfl rfl fun a hk => ?_
        show wpList _ _ _ [] _ _
        refine wpList_nil ?_
        refine hK84 _ _ ?_
        apply wp_seq_k; intro K87 hK87
        apply wp_region_lit
        refine sm _ rfl hk rfl rfl rfl fun a hk => ?_
        refine sm _ rfl hk rfl rfl rfl fun a hk => ?_
        obtain ⟨y88, h89, H⟩ := bind_some H
        refine sc rfl en34 hk rfl rfl rfl (impl_MapGet_t _ A65 p66 y63.1 _ o68.view (hs.hasG (k := 10) rfl) (w64 (1 + y21)) _ h89) ?_
        rintro _ w ⟨rfl, hG⟩ a hk
        have hs := hs.call0 hG
        refine sm _ rfl hk rfl rfl rfl fun a hk => ?_
        refine sv (.int .i64 y88.1) hk rfl rfl rfl fun a hk => ?_
        refine sv (.int .i64 y88.2) hk rfl rfl rfl fun a hk => ?_
        refine sa _ rfl hk rfl rfl rfl fun a hk => ?_
        refine sa _ rfl hk rfl rfl rfl fun a hk => ?_
        show wpList _ _ _ [] _ _
        refine wpList_nil ?_
        refine hK87 _ _ ?_
        apply wp_seq_k; intro K90 hK90
        apply wp_seq_k; intro K91 hK91
        obtain ⟨o94, h95, HL96⟩ := bind_some H
        clear H
        obtain ⟨R97, hR97⟩ : ∃ R : Act → World → Prop, R = fun a w => ∃ (u93 : Bool), u93 = o94 ∧ Kn [(5, (.slice A17 y14.length p18)), (6, (.int .i64 (w64 (1 + y21)))), (14, (.slice A65 y63.1.length p66)), (158, (.bool u93))] 195 a ∧ Sat [] w0 w [(1, k0_), (2, k1_)] [(4, k16), (10, k67)] := ⟨_, rfl⟩
        refine wp_cutq R97 ?_ ?_
        · have H := h95
          apply wp_region_lit
          refine sm _ rfl hk rfl rfl rfl fun a hk => ?_
          refine sv (.bool (y52.2.2 != 0)) hk rfl rfl rfl fun a hk => ?_
          refine sm _ rfl hk rfl rfl rfl fun a hk => ?_
          rcases cond_some H with ⟨c98, H⟩ | ⟨c98, H⟩
          · have hk := hk.lit 103 c98 rfl
            refine sk hk rfl rfl rfl fun a hk => ?_
            refine sk hk rfl rfl rfl fun a hk => ?_
            refine sk hk rfl rfl rfl fun a hk => ?_
            refine sk hk rfl rfl rfl fun a hk => ?_
            refine sv (.bool true) hk rfl rfl rfl fun a hk => ?_
            refine sm _ rfl hk rfl rfl rfl fun a hk => ?_
            refine sk hk rfl rfl rfl fun a hk => ?_
            refine sk hk rfl rfl rfl fun a hk => ?_
            refine sk hk rfl rfl rfl fun a hk => ?_
            refine sk hk rfl rfl rfl fun a hk => ?_
            refine sk hk rfl rfl rfl fun a hk => ?_
            refine sv (.bool true) hk rfl rfl rfl fun a hk => ?_
            refine sm _ rfl hk rfl rfl rfl fun a hk => ?_
            refine sk hk rfl rfl rfl fun a hk => ?_
            refine sk hk rfl rfl rfl fun a hk => ?_
            refine sv (.bool true) hk rfl rfl rfl fun a hk => ?_
            refine sm _ rfl hk rfl rfl rfl fun a hk => ?_
            refine sk hk rfl rfl rfl fun a hk => ?_
            refine sk hk rfl rfl rfl fun a hk => ?_
            refine sk hk rfl rfl rfl fun a hk => ?_
            refine sk hk rfl rfl rfl fun a hk => ?_
            refine sv (.bool true) hk rfl rfl rfl fun a hk => ?_
            refine sm _ rfl hk rfl rfl rfl fun a hk => ?_
            refine sk hk rfl rfl rfl fun a hk => ?_
            refine sk hk rfl rfl rfl fun a hk => ?_
            refine sv (.bool true) hk rfl rfl rfl fun a hk => ?_
            refine sm _ rfl hk rfl rfl rfl fun a hk => ?_
            refine sk hk rfl rfl rfl fun a hk => ?_
            refine sk hk rfl rfl rfl fun a hk => ?_
            refine sk hk rfl rfl rfl fun a hk => ?_
            refine sk hk rfl rfl rfl fun a hk => ?_
            refine sv (.bool true) hk rfl rfl rfl fun a hk => ?_
            refine sm _ rfl hk rfl rfl rfl fun a hk => ?_
            refine sk hk rfl rfl rfl fun a hk => ?_
            refine sk hk rfl rfl rfl fun a hk => ?_
            refine sv (.bool true) hk rfl rfl rfl fun a hk => ?_
            refine sm _ rfl hk rfl rfl rfl fun a hk => ?_
            refine sk hk rfl rfl rfl fun a hk => ?_
            refine sk hk rfl rfl rfl fun a hk => ?_
            refine sk hk rfl rfl rfl fun a hk => ?_
            refine sv (.bool true) hk rfl rfl rfl fun a hk => ?_
            refine sm _ rfl hk rfl rfl rfl fun a hk => ?_
            refine sk hk rfl rfl rfl fun a hk => ?_
            refine sk hk rfl rfl rfl fun a hk => ?_
            refine sv (.bool true) hk rfl rfl rfl fun a hk => ?_
            refine sm _ rfl hk rfl rfl rfl fun a hk => ?_
            refine sk hk rfl rfl rfl fun a hk => ?_
            refine sk hk rfl rfl rfl fun a hk => ?_
            refine sk hk rfl rfl rfl fun a hk => ?_
            refine sv (.bool true) hk rfl rfl rfl fun a hk => ?_
            refine sm _ rfl hk rfl rfl rfl fun a hk => ?_
            refine sk hk rfl rfl rfl fun a hk => ?_
            refine sk hk rfl rfl rfl fun a hk => ?_
            refine sk hk rfl rfl rfl fun a hk => ?_
            refine sv (.bool true) hk rfl rfl rfl fun a hk => ?_
            show wpList _ _ _ [] _ _
            refine wpList_nil ?_
            obtain rfl := Option.some.inj H
            show R97 _ _
            rw [hR97]
            exact ⟨true, rfl, (hk.c 5 rfl (hk.c 6 rfl (hk.c 14 rfl (hk.c 158 rfl hk.k)))), (hs.pick [(4, 4), (10, 10)] rfl)⟩
          · have hk := hk.lit 103 c98 rfl
            refine sm _ rfl hk rfl rfl rfl fun a hk => ?_
            refine sm _ rfl hk rfl rfl rfl fun a hk => ?_
            obtain ⟨y99, h100, H⟩ := bind_some H
            refine sc rfl en33 hk rfl rfl rfl (laws_sameEntries_t _ A29 p30 y27.1 _ o32.view (hs.hasG (k := 5) rfl) A54 p55 y52.1 _ o57.view (hs.hasG (k := 8) rfl) _ h100) ?_
            rintro _ w ⟨rfl, hG⟩ a hk
            have hs := hs.call0 hG
            refine sv (.bool (!y99)) hk rfl rfl rfl fun a hk => ?_
            refine sv (.bool (!y99)) hk rfl rfl rfl fun a hk => ?_
            refine sm _ rfl hk rfl rfl rfl fun a hk => ?_
            rcases cond_some H with ⟨c101, H⟩ | ⟨c101, H⟩
            · have hk := hk.lit 109 c101 rfl
              refine sk hk rfl rfl rfl fun a hk => ?_
              refine sk hk rfl rfl rfl fun a hk => ?_
              refine sk hk rfl rfl rfl fun a hk => ?_
              refine sk hk rfl rfl rfl fun a hk => ?_
              refine sk hk rfl rfl rfl fun a hk => ?_
              refine sv (.bool true) hk rfl rfl rfl fun a hk => ?_
              refine sm _ rfl hk rfl rfl rfl fun a hk => ?_
              refine sk hk rfl rfl rfl fun a hk => ?_
              refine sk hk rfl rfl rfl fun a hk => ?_
              refine sv (.bool true) hk rfl rfl rfl fun a hk => ?_
              refine sm _ rfl hk rfl rfl rfl fun a hk => ?_
              refine sk hk rfl rfl rfl fun a hk => ?_
              refine sk hk rfl rfl rfl fun a hk => ?_
              refine sk hk rfl rfl rfl fun a hk => ?_
              refine sk hk rfl rfl rfl fun a hk => ?_
              refine sv (.bool true) hk rfl rfl rfl fun a hk => ?_
              refine sm _ rfl hk rfl rfl rfl fun a hk => ?_
              refine sk hk rfl rfl rfl fun a hk => ?_
              refine sk hk rfl rfl rfl fun a hk => ?_
              refine sv (.bool true) hk rfl rfl rfl fun a hk => ?_
              refine sm _ rfl hk rfl rfl rfl fun a hk => ?_
              refine sk hk rfl rfl rfl fun a hk => ?_
              refine sk hk rfl rfl rfl fun a hk => ?_
              refine sk hk rfl rfl rfl fun a hk => ?_
              refine sk hk rfl rfl rfl fun a hk => ?_
              refine sv (.bool true) hk rfl rfl rfl fun a hk => ?_
              refine sm _ rfl hk rfl rfl rfl fun a hk => ?_
              refine sk hk rfl rfl rfl fun a hk => ?_
              refine sk hk rfl rfl rfl fun a hk => ?_
              refine sv (.bool true) hk rfl rfl rfl fun a hk => ?_
              refine sm _ rfl hk rfl rfl rfl fun a hk => ?_
              refine sk hk rfl rfl rfl fun a hk => ?_
              refine sk hk rfl rfl rfl fun a hk => ?_
              refine sk hk rfl rfl rfl fun a hk => ?_
              refine sv (.bool true) hk rfl rfl rfl fun a hk => ?_
              refine sm _ rfl hk rfl rfl rfl fun a hk => ?_
              refine sk hk rfl rfl rfl fun a hk => ?_
              refine sk hk rfl rfl rfl fun a hk => ?_
              refine sv (.bool true) hk rfl rfl rfl fun a hk => ?_
              refine sm _ rfl hk rfl rfl rfl fun a hk => ?_
              refine sk hk rfl rfl rfl fun a hk => ?_
              refine sk hk rfl rfl rfl fun a hk => ?_
              refine sk hk rfl rfl rfl fun a hk => ?_
              refine sv (.bool true) hk rfl rfl rfl fun a hk => ?_
              refine sm _ rfl hk rfl rfl rfl fun a hk => ?_
              refine sk hk rfl rfl rfl fun a hk => ?_
              refine sk hk rfl rfl rfl fun a hk => ?_
              refine sk hk rfl rfl rfl fun a hk => ?_
              refine sv (.bool true) hk rfl rfl rfl fun a hk => ?_
              show wpList _ _ _ [] _ _
              refine wpList_nil ?_
              obtain rfl := Option.some.inj H
              show R97 _ _
              rw [hR97]
              exact ⟨true, rfl, (hk.c 5 rfl (hk.c 6 rfl (hk.c 14 rfl (hk.c 158 rfl hk.k)))), (hs.pick [(4, 4), (10, 10)] rfl)⟩
            · have hk := hk.lit 109 c101 rfl
              refine sm _ rfl hk rfl rfl rfl fun a hk => ?_
              refine sm _ rfl hk rfl rfl rfl fun a hk => ?_
              refine sbs (L := (Lay.int .i64)) (pv := [(0, (.int .i64 1)), (1, (.int .i64 y24))]) (xs := [1, y24]) (ess := [[.int .i64 1], [.int .i64 y24]]) 15 hs rfl hk rfl rfl rfl un27 (bs3_0 1 y24) (AllOwn.cons0 ⟨rfl, rfl⟩ (AllOwn.cons0 ⟨rfl, rfl⟩ AllOwn.nil)) rfl rfl rfl fun b102 k103 w a hk o104 hs => ?_
              obtain ⟨y105, h106, H⟩ := bind_some H
              refine sc rfl en35 hk rfl rfl rfl (laws_sameInts_t _ A58 p59 y52.2.1 _ o61.view (hs.hasG (k := 9) rfl) (some ⟨b102, 0, none⟩) 2 ([1, y24]) _ o104.view (hs.hasG (k := 15) rfl) _ h106) ?_
              rintro _ w ⟨rfl, hG⟩ a hk
              have hs := hs.call0 hG
              refine sv (.bool (!y105)) hk rfl rfl rfl fun a hk => ?_
              refine sv (.bool (!y105)) hk rfl rfl rfl fun a hk => ?_
              refine sm _ rfl hk rfl rfl rfl fun a hk => ?_
              rcases cond_some H with ⟨c107, H⟩ | ⟨c107, H⟩
              · have hk := hk.lit 116 c107 rfl
                refine sk hk rfl rfl rfl fun a hk => ?_
                refine sk hk rfl rfl rfl fun a hk => ?_
                refine sv (.bool true) hk rfl rfl rfl fun a hk => ?_
                refine sm _ rfl hk rfl rfl rfl fun a hk => ?_
                refine sk hk rfl rfl rfl fun a hk => ?_
                refine sk hk rfl rfl rfl fun a hk => ?_
                refine sk hk rfl rfl rfl fun a hk => ?_
                refine sk hk rfl rfl rfl fun a hk => ?_
                refine sv (.bool true) hk rfl rfl rfl fun a hk => ?_
                refine sm _ rfl hk rfl rfl rfl fun a hk => ?_
                refine sk hk rfl rfl rfl fun a hk => ?_
                refine sk hk rfl rfl rfl fun a hk => ?_
                refine sv (.bool true) hk rfl rfl rfl fun a hk => ?_
                refine sm _ rfl hk rfl rfl rfl fun a hk => ?_
                refine sk hk rfl rfl rfl fun a hk => ?_
                refine sk hk rfl rfl rfl fun a hk => ?_
                refine sk hk rfl rfl rfl fun a hk => ?_
                refine sk hk rfl rfl rfl fun a hk => ?_
                refine sv (.bool true) hk rfl rfl rfl fun a hk => ?_
                refine sm _ rfl hk rfl rfl rfl fun a hk => ?_
                refine sk hk rfl rfl rfl fun a hk => ?_
                refine sk hk rfl rfl rfl fun a hk => ?_
                refine sv (.bool true) hk rfl rfl rfl fun a hk => ?_
                refine sm _ rfl hk rfl rfl rfl fun a hk => ?_
                refine sk hk rfl rfl rfl fun a hk => ?_
                refine sk hk rfl rfl rfl fun a hk => ?_
                refine sk hk rfl rfl rfl fun a hk => ?_
                refine sv (.bool true) hk rfl rfl rfl fun a hk => ?_
                refine sm _ rfl hk rfl rfl rfl fun a hk => ?_
                refine sk hk rfl rfl rfl fun a hk => ?_
                refine sk hk rfl rfl rfl fun a hk => ?_
                refine sv (.bool true) hk rfl rfl rfl fun a hk => ?_
                refine sm _ rfl hk rfl rfl rfl fun a hk => ?_
                refine sk hk rfl rfl rfl fun a hk => ?_
                refine sk hk rfl rfl rfl fun a hk => ?_
                refine sk hk rfl rfl rfl fun a hk => ?_
                refine sv (.bool true) hk rfl rfl rfl fun a hk => ?_
                refine sm _ rfl hk rfl rfl rfl fun a hk => ?_
                refine sk hk rfl rfl rfl fun a hk => ?_
                refine sk hk rfl rfl rfl fun a hk => ?_
                refine sk hk rfl rfl rfl fun a hk => ?_
                refine sv (.bool true) hk rfl rfl rfl fun a hk => ?_
                show wpList _ _ _ [] _ _
                refine wpList_nil ?_
                obtain rfl := Option.some.inj H
                show R97 _ _
                rw [hR97]
                exact ⟨true, rfl, (hk.c 5 rfl (hk.c 6 rfl (hk.c 14 rfl (hk.c 158 rfl hk.k)))), (hs.pick [(4, 4), (10, 10)] rfl)⟩
              · have hk := hk.lit 116 c107 rfl
                refine sm _ rfl hk rfl rfl rfl fun a hk => ?_
                refine sv (.bool (y63.2.2 != 0)) hk rfl rfl rfl fun a hk => ?_
                refine sv (.bool (y63.2.2 != 0)) hk rfl rfl rfl fun a hk => ?_
                refine sm _ rfl hk rfl rfl rfl fun a hk => ?_
                rcases cond_some H with ⟨c108, H⟩ | ⟨c108, H⟩
                · have hk := hk.lit 120 c108 rfl
                  refine sk hk rfl rfl rfl fun a hk => ?_
                  refine sk hk rfl rfl rfl fun a hk => ?_
                  refine sk hk rfl rfl rfl fun a hk => ?_
                  refine sk hk rfl rfl rfl fun a hk => ?_
                  refine sv (.bool true) hk rfl rfl rfl fun a hk => ?_
                  refine sm _ rfl hk rfl rfl rfl fun a hk => ?_
                  refine sk hk rfl rfl rfl fun a hk => ?_
                  refine sk hk rfl rfl rfl fun a hk => ?_
                  refine sv (.bool true) hk rfl rfl rfl fun a hk => ?_
                  refine sm _ rfl hk rfl rfl rfl fun a hk => ?_
                  refine sk hk rfl rfl rfl fun a hk => ?_
                  refine sk hk rfl rfl rfl fun a hk => ?_
                  refine sk hk rfl rfl rfl fun a hk => ?_
                  refine sk hk rfl rfl rfl fun a hk => ?_
                  refine sv (.bool true) hk rfl rfl rfl fun a hk => ?_
                  refine sm _ rfl hk rfl rfl rfl fun a hk => ?_
                  refine sk hk rfl rfl rfl fun a hk => ?_
                  refine sk hk rfl rfl rfl fun a hk => ?_
                  refine sv (.bool true) hk rfl rfl rfl fun a hk => ?_
                  refine sm _ rfl hk rfl rfl rfl fun a hk => ?_
                  refine sk hk rfl rfl rfl fun a hk => ?_
                  refine sk hk rfl rfl rfl fun a hk => ?_
                  refine sk hk rfl rfl rfl fun a hk => ?_
                  refine sv (.bool true) hk rfl rfl rfl fun a hk => ?_
                  refine sm _ rfl hk rfl rfl rfl fun a hk => ?_
                  refine sk hk rfl rfl rfl fun a hk => ?_
                  refine sk hk rfl rfl rfl fun a hk => ?_
                  refine sv (.bool true) hk rfl rfl rfl fun a hk => ?_
                  refine sm _ rfl hk rfl rfl rfl fun a hk => ?_
                  refine sk hk rfl rfl rfl fun a hk => ?_
                  refine sk hk rfl rfl rfl fun a hk => ?_
                  refine sk hk rfl rfl rfl fun a hk => ?_
                  refine sv (.bool true) hk rfl rfl rfl fun a hk => ?_
                  refine sm _ rfl hk rfl rfl rfl fun a hk => ?_
                  refine sk hk rfl rfl rfl fun a hk => ?_
                  refine sk hk rfl rfl rfl fun a hk => ?_
                  refine sk hk rfl rfl rfl fun a hk => ?_
                  refine sv (.bool true) hk rfl rfl rfl fun a hk => ?_
                  show wpList _ _ _ [] _ _
                  refine wpList_nil ?_
                  obtain rfl := Option.some.inj H
                  show R97 _ _
                  rw [hR97]
                  exact ⟨true, rfl, (hk.c 5 rfl (hk.c 6 rfl (hk.c 14 rfl (hk.c 158 rfl hk.k)))), (hs.pick [(4, 4), (10, 10)] rfl)⟩
                · have hk := hk.lit 120 c108 rfl
                  refine sm _ rfl hk rfl rfl rfl fun a hk => ?_
                  refine sbs (L := (Lay.int .i64)) (pv := [(0, (.int .i64 1))]) (xs := [1]) (ess := [[.int .i64 1]]) 16 hs rfl hk rfl rfl rfl un27 (bs3_3 1) (AllOwn.cons0 ⟨rfl, rfl⟩ AllOwn.nil) rfl rfl rfl fun b109 k110 w a hk o111 hs => ?_
                  obtain ⟨y112, h113, H⟩ := bind_some H
                  refine sc rfl en35 hk rfl rfl rfl (laws_sameInts_t _ A69 p70 y63.2.1 _ o72.view (hs.hasG (k := 11) rfl) (some ⟨b109, 0, none⟩) 1 ([1]) _ o111.view (hs.hasG (k := 16) rfl) _ h113) ?_
                  rintro _ w ⟨rfl, hG⟩ a hk
                  have hs := hs.call0 hG
                  refine sv (.bool (!y112)) hk rfl rfl rfl fun a hk => ?_
                  refine sv (.bool (!y112)) hk rfl rfl rfl fun a hk => ?_
                  refine sm _ rfl hk rfl rfl rfl fun a hk => ?_
                  rcases cond_some H with ⟨c114, H⟩ | ⟨c114, H⟩
                  · have hk := hk.lit 126 c114 rfl
                    refine sk hk rfl rfl rfl fun a hk => ?_
                    refine sk hk rfl rfl rfl fun a hk => ?_
                    refine sv (.bool true) hk rfl rfl rfl fun a hk => ?_
                    refine sm _ rfl hk rfl rfl rfl fun a hk => ?_
                    refine sk hk rfl rfl rfl fun a hk => ?_
                    refine sk hk rfl rfl rfl fun a hk => ?_
                    refine sk hk rfl rfl rfl fun a hk => ?_
                    refine sk hk rfl rfl rfl fun a hk => ?_
                    refine sv (.bool true) hk rfl rfl rfl fun a hk => ?_
                    refine sm _ rfl hk rfl rfl rfl fun a hk => ?_
                    refine sk hk rfl rfl rfl fun a hk => ?_
                    refine sk hk rfl rfl rfl fun a hk => ?_
                    refine sv (.bool true) hk rfl rfl rfl fun a hk => ?_
                    refine sm _ rfl hk rfl rfl rfl fun a hk => ?_
                    refine sk hk rfl rfl rfl fun a hk => ?_
                    refine sk hk rfl rfl rfl fun a hk => ?_
                    refine sk hk rfl rfl rfl fun a hk => ?_
                    refine sv (.bool true) hk rfl rfl rfl fun a hk => ?_
                    refine sm _ rfl hk rfl rfl rfl fun a hk => ?_
                    refine sk hk rfl rfl rfl fun a hk => ?_
                    refine sk hk rfl rfl rfl fun a hk => ?_
                    refine sv (.bool true) hk rfl rfl rfl fun a hk => ?_
                    refine sm _ rfl hk rfl rfl rfl fun a hk => ?_
                    refine sk hk rfl rfl rfl fun a hk => ?_
                    refine sk hk rfl rfl rfl fun a hk => ?_
                    refine sk hk rfl rfl rfl fun a hk => ?_
                    refine sv (.bool true) hk rfl rfl rfl fun a hk => ?_
                    refine sm _ rfl hk rfl rfl rfl fun a hk => ?_
                    refine sk hk rfl rfl rfl fun a hk => ?_
                    refine sk hk rfl rfl rfl fun a hk => ?_
                    refine sk hk rfl rfl rfl fun a hk => ?_
                    refine sv (.bool true) hk rfl rfl rfl fun a hk => ?_
                    show wpList _ _ _ [] _ _
                    refine wpList_nil ?_
                    obtain rfl := Option.some.inj H
                    show R97 _ _
                    rw [hR97]
                    exact ⟨true, rfl, (hk.c 5 rfl (hk.c 6 rfl (hk.c 14 rfl (hk.c 158 rfl hk.k)))), (hs.pick [(4, 4), (10, 10)] rfl)⟩
                  · have hk := hk.lit 126 c114 rfl
                    refine sm _ rfl hk rfl rfl rfl fun a hk => ?_
                    refine sv (.bool (y74.2.2 != 0)) hk rfl rfl rfl fun a hk => ?_
                    refine sv (.bool (y74.2.2 != 0)) hk rfl rfl rfl fun a hk => ?_
                    refine sm _ rfl hk rfl rfl rfl fun a hk => ?_
                    rcases cond_some H with ⟨c115, H⟩ | ⟨c115, H⟩
                    · have hk := hk.lit 130 c115 rfl
                      refine sk hk rfl rfl rfl fun a hk => ?_
                      refine sk hk rfl rfl rfl fun a hk => ?_
                      refine sk hk rfl rfl rfl fun a hk => ?_
                      refine sk hk rfl rfl rfl fun a hk => ?_
                      refine sv (.bool true) hk rfl rfl rfl fun a hk => ?_
                      refine sm _ rfl hk rfl rfl rfl fun a hk => ?_
                      refine sk hk rfl rfl rfl fun a hk => ?_
                      refine sk hk rfl rfl rfl fun a hk => ?_
                      refine sv (.bool true) hk rfl rfl rfl fun a hk => ?_
                      refine sm _ rfl hk rfl rfl rfl fun a hk => ?_
                      refine sk hk rfl rfl rfl fun a hk => ?_
                      refine sk hk rfl rfl rfl fun a hk => ?_
                      refine sk hk rfl rfl rfl fun a hk => ?_
                      refine sv (.bool true) hk rfl rfl rfl fun a hk => ?_
                      refine sm _ rfl hk rfl rfl rfl fun a hk => ?_
                      refine sk hk rfl rfl rfl fun a hk => ?_
                      refine sk hk rfl rfl rfl fun a hk => ?_
                      refine sv (.bool true) hk rfl rfl rfl fun a hk => ?_
                      refine sm _ rfl hk rfl rfl rfl fun a hk => ?_
                      refine sk hk rfl rfl rfl fun a hk => ?_
                      refine sk hk rfl rfl rfl fun a hk => ?_
                      refine sk hk rfl rfl rfl fun a hk => ?_
                      refine sv (.bool true) hk rfl rfl rfl fun a hk => ?_
                      refine sm _ rfl hk rfl rfl rfl fun a hk => ?_
                      refine sk hk rfl rfl rfl fun a hk => ?_
                      refine sk hk rfl rfl rfl fun a hk => ?_
                      refine sk hk rfl rfl rfl fun a hk => ?_
                      refine sv (.bool true) hk rfl rfl rfl fun a hk => ?_
                      show wpList _ _ _ [] _ _
                      refine wpList_nil ?_
                      obtain rfl := Option.some.inj H
                      show R97 _ _
                      rw [hR97]
                      exact ⟨true, rfl, (hk.c 5 rfl (hk.c 6 rfl (hk.c 14 rfl (hk.c 158 rfl hk.k)))), (hs.pick [(4, 4), (10, 10)] rfl)⟩
                    · have hk := hk.lit 130 c115 rfl
                      refine sm _ rfl hk rfl rfl rfl fun a hk => ?_
                      refine sbs (L := (Lay.int .i64)) (pv := [(0, (.int .i64 0)), (1, (.int .i64 0))]) (xs := [0, 0]) (ess := [[.int .i64 0], [.int .i64 0]]) 17 hs rfl hk rfl rfl rfl un27 (bs3_0 0 0) (AllOwn.cons0 ⟨rfl, rfl⟩ (AllOwn.cons0 ⟨rfl, rfl⟩ AllOwn.nil)) rfl rfl rfl fun b116 k117 w a hk o118 hs => ?_
                      obtain ⟨y119, h120, H⟩ := bind_some H
                      refine sc rfl en35 hk rfl rfl rfl (laws_sameInts_t _ A80 p81 y74.2.1 _ o83.view (hs.hasG (k := 13) rfl) (some ⟨b116, 0, none⟩) 2 ([0, 0]) _ o118.view (hs.hasG (k := 17) rfl) _ h120) ?_
                      rintro _ w ⟨rfl, hG⟩ a hk
                      have hs := hs.call0 hG
                      refine sv (.bool (!y119)) hk rfl rfl rfl fun a hk => ?_
                      refine sv (.bool (!y119)) hk rfl rfl rfl fun a hk => ?_
                      refine sm _ rfl hk rfl rfl rfl fun a hk => ?_
                      rcases cond_some H with ⟨c121, H⟩ | ⟨c121, H⟩
                      · have hk := hk.lit 136 c121 rfl
                        refine sk hk rfl rfl rfl fun a hk => ?_
                        refine sk hk rfl rfl rfl fun a hk => ?_
                        refine sv (.bool true) hk rfl rfl rfl fun a hk => ?_
                        refine sm _ rfl hk rfl rfl rfl fun a hk => ?_
                        refine sk hk rfl rfl rfl fun a hk => ?_
                        refine sk hk rfl rfl rfl fun a hk => ?_
                        refine sk hk rfl rfl rfl fun a hk => ?_
                        refine sv (.bool true) hk rfl rfl rfl fun a hk => ?_
                        refine sm _ rfl hk rfl rfl rfl fun a hk => ?_
                        refine sk hk rfl rfl rfl fun a hk => ?_
                        refine sk hk rfl rfl rfl fun a hk => ?_
                        refine sv (.bool true) hk rfl rfl rfl fun a hk => ?_
                        refine sm _ rfl hk rfl rfl rfl fun a hk => ?_
                        refine sk hk rfl rfl rfl fun a hk => ?_
                        refine sk hk rfl rfl rfl fun a hk => ?_
                        refine sk hk rfl rfl rfl fun a hk => ?_
                        refine sv (.bool true) hk rfl rfl rfl fun a hk => ?_
                        refine sm _ rfl hk rfl rfl rfl fun a hk => ?_
                        refine sk hk rfl rfl rfl fun a hk => ?_
                        refine sk hk rfl rfl rfl fun a hk => ?_
                        refine sk hk rfl rfl rfl fun a hk => ?_
                        refine sv (.bool true) hk rfl rfl rfl fun a hk => ?_
                        show wpList _ _ _ [] _ _
                        refine wpList_nil ?_
                        obtain rfl := Option.some.inj H
                        show R97 _ _
                        rw [hR97]
                        exact ⟨true, rfl, (hk.c 5 rfl (hk.c 6 rfl (hk.c 14 rfl (hk.c 158 rfl hk.k)))), (hs.pick [(4, 4), (10, 10)] rfl)⟩
                      · have hk := hk.lit 136 c121 rfl
                        refine sm _ rfl hk rfl rfl rfl fun a hk => ?_
                        refine sv (.bool (y85.2 != 0)) hk rfl rfl rfl fun a hk => ?_
                        refine sv (.bool (y85.2 != 0)) hk rfl rfl rfl fun a hk => ?_
                        refine sm _ rfl hk rfl rfl rfl fun a hk => ?_
                        rcases cond_some H with ⟨c122, H⟩ | ⟨c122, H⟩
                        · have hk := hk.lit 140 c122 rfl
                          refine sk hk rfl rfl rfl fun a hk => ?_
                          refine sk hk rfl rfl rfl fun a hk => ?_
                          refine sk hk rfl rfl rfl fun a hk => ?_
                          refine sv (.bool true) hk rfl rfl rfl fun a hk => ?_
                          refine sm _ rfl hk rfl rfl rfl fun a hk => ?_
                          refine sk hk rfl rfl rfl fun a hk => ?_
                          refine sk hk rfl rfl rfl fun a hk => ?_
                          refine sv (.bool true) hk rfl rfl rfl fun a hk => ?_
                          refine sm _ rfl hk rfl rfl rfl fun a hk => ?_
                          refine sk hk rfl rfl rfl fun a hk => ?_
                          refine sk hk rfl rfl rfl fun a hk => ?_
                          refine sk hk rfl rfl rfl fun a hk => ?_
                          refine sv (.bool true) hk rfl rfl rfl fun a hk => ?_
                          refine sm _ rfl hk rfl rfl rfl fun a hk => ?_
                          refine sk hk rfl rfl rfl fun a hk => ?_
                          refine sk hk rfl rfl rfl fun a hk => ?_
                          refine sk hk rfl rfl rfl fun a hk => ?_
                          refine sv (.bool true) hk rfl rfl rfl fun a hk => ?_
                          show wpList _ _ _ [] _ _
                          refine wpList_nil ?_
                          obtain rfl := Option.some.inj H
                          show R97 _ _
                          rw [hR97]
                          exact ⟨true, rfl, (hk.c 5 rfl (hk.c 6 rfl (hk.c 14 rfl (hk.c 158 rfl hk.k)))), (hs.pick [(4, 4), (10, 10)] rfl)⟩
                        · have hk := hk.lit 140 c122 rfl
                          refine sm _ rfl hk rfl rfl rfl fun a hk => ?_
                          refine sm _ rfl hk rfl rfl rfl fun a hk => ?_
                          refine sv (.bool (y85.1 != y24)) hk rfl rfl rfl fun a hk => ?_
                          refine sv (.bool (y85.1 != y24)) hk rfl rfl rfl fun a hk => ?_
                          refine sm _ rfl hk rfl rfl rfl fun a hk => ?_
                          rcases cond_some H with ⟨c123, H⟩ | ⟨c123, H⟩
                          · have hk := hk.lit 145 c123 rfl
                            refine sk hk rfl rfl rfl fun a hk => ?_
                            refine sk hk rfl rfl rfl fun a hk => ?_
                            refine sv (.bool true) hk rfl rfl rfl fun a hk => ?_
                            refine sm _ rfl hk rfl rfl rfl fun a hk => ?_
                            refine sk hk rfl rfl rfl fun a hk => ?_
                            refine sk hk rfl rfl rfl fun a hk => ?_
                            refine sk hk rfl rfl rfl fun a hk => ?_
                            refine sv (.bool true) hk rfl rfl rfl fun a hk => ?_
                            refine sm _ rfl hk rfl rfl rfl fun a hk => ?_
                            refine sk hk rfl rfl rfl fun a hk => ?_
                            refine sk hk rfl rfl rfl fun a hk => ?_
                            refine sk hk rfl rfl rfl fun a hk => ?_
                            refine sv (.bool true) hk rfl rfl rfl fun a hk => ?_
                            show wpList _ _ _ [] _ _
                            refine wpList_nil ?_
                            obtain rfl := Option.some.inj H
                            show R97 _ _
                            rw [hR97]
                            exact ⟨true, rfl, (hk.c 5 rfl (hk.c 6 rfl (hk.c 14 rfl (hk.c 158 rfl hk.k)))), (hs.pick [(4, 4), (10, 10)] rfl)⟩
                          · have hk := hk.lit 145 c123 rfl
                            refine sm _ rfl hk rfl rfl rfl fun a hk => ?_
                            refine sv (.bool (y88.2 != 5)) hk rfl rfl rfl fun a hk => ?_
                            refine sv (.bool (y88.2 != 5)) hk rfl rfl rfl fun a hk => ?_
                            refine sm _ rfl hk rfl rfl rfl fun a hk => ?_
                            rcases cond_some H with ⟨c124, H⟩ | ⟨c124, H⟩
                            · have hk := hk.lit 149 c124 rfl
                              refine sk hk rfl rfl rfl fun a hk => ?_
                              refine sk hk rfl rfl rfl fun a hk => ?_
                              refine sk hk rfl rfl rfl fun a hk => ?_
                              refine sv (.bool true) hk rfl rfl rfl fun a hk => ?_
                              refine sm _ rfl hk rfl rfl rfl fun a hk => ?_
                              refine sk hk rfl rfl rfl fun a hk => ?_
                              refine sk hk rfl rfl rfl fun a hk => ?_
                              refine sk hk rfl rfl rfl fun a hk => ?_
                              refine sv (.bool true) hk rfl rfl rfl fun a hk => ?_
                              show wpList _ _ _ [] _ _
                              refine wpList_nil ?_
                              obtain rfl := Option.some.inj H
                              show R97 _ _
                              rw [hR97]
                              exact ⟨true, rfl, (hk.c 5 rfl (hk.c 6 rfl (hk.c 14 rfl (hk.c 158 rfl hk.k)))), (hs.pick [(4, 4), (10, 10)] rfl)⟩
                            · have hk := hk.lit 149 c124 rfl
                              refine sm _ rfl hk rfl rfl rfl fun a hk => ?_
                              obtain ⟨y125, h126, H⟩ := bind_some H
                              refine sc rfl en36 hk rfl rfl rfl (impl_MapOK_t _ A29 p30 y27.1 _ o32.view (hs.hasG (k := 5) rfl) _ h126) ?_
                              rintro _ w ⟨rfl, hG⟩ a hk
                              have hs := hs.call0 hG
                              refine sv (.bool (!y125)) hk rfl rfl rfl fun a hk => ?_
                              refine sv (.bool (!y125)) hk rfl rfl rfl fun a hk => ?_
                              refine sm _ rfl hk rfl rfl rfl fun a hk => ?_
                              rcases cond_some H with ⟨c127, H⟩ | ⟨c127, H⟩
                              · have hk := hk.lit 154 c127 rfl
                                refine sk hk rfl rfl rfl fun a hk => ?_
                                refine sk hk rfl rfl rfl fun a hk => ?_
                                refine sk hk rfl rfl rfl fun a hk => ?_
                                refine sv (.bool true) hk rfl rfl rfl fun a hk => ?_
                                show wpList _ _ _ [] _ _
                                refine wpList_nil ?_
                                obtain rfl := Option.some.inj H
                                show R97 _ _
                                rw [hR97]
                                exact ⟨true, rfl, (hk.c 5 rfl (hk.c 6 rfl (hk.c 14 rfl (hk.c 158 rfl hk.k)))), (hs.pick [(4, 4), (10, 10)] rfl)⟩
                              · have hk := hk.lit 154 c127 rfl
                                refine sm _ rfl hk rfl rfl rfl fun a hk => ?_
                                obtain ⟨y128, h129, H⟩ := bind_some H
                                refine sc rfl en36 hk rfl rfl rfl (impl_MapOK_t _ A65 p66 y63.1 _ o68.view (hs.hasG (k := 10) rfl) _ h129) ?_
                                rintro _ w ⟨rfl, hG⟩ a hk
                                have hs := hs.call0 hG
                                refine sv (.bool (!y128)) hk rfl rfl rfl fun a hk => ?_
                                refine sv (.bool (!y128)) hk rfl rfl rfl fun a hk => ?_
                                show wpList _ _ _ [] _ _
                                refine wpList_nil ?_
                                obtain rfl := Option.some.inj H
                                show R97 _ _
                                rw [hR97]
                                exact ⟨(!y128), rfl, (hk.c 5 rfl (hk.c 6 rfl (hk.c 14 rfl (hk.c 158 rfl hk.k)))), (hs.pick [(4, 4), (10, 10)] rfl)⟩
        · intro a w hR0
          rw [hR97] at hR0
          obtain ⟨u93, rfl, hk, hs⟩ := hR0
          have H := HL96
          try dsimp only at H
          refine hK91 _ _ ?_
          rcases cond_some H with ⟨c130, H⟩ | ⟨c130, H⟩
          · have hk := hk.lit 158 c130 rfl
            refine cnd_true hk rfl rfl ?_
            apply wp_seq_k; intro K131 hK131
            apply wp_region_lit
            refine sa _ rfl hk rfl rfl rfl fun a hk => ?_
            show wpList _ _ _ [] _ _
            refine wpList_nil ?_
            refine hK131 _ _ ?_
            refine wp_ret ?_
            obtain rfl := Option.some.inj H
            exact fin hk _ [(.bool false)] rfl ⟨rfl, trivial⟩ ⟨rfl, (hs.pick [] rfl).dnil⟩
          · have hk := hk.lit 158 c130 rfl
            refine cnd_false hk rfl rfl ?_
            refine wp_skip ?_
            refine hK90 _ _ ?_
            apply wp_seq_k; intro K132 hK132
            apply wp_seq_k; intro K133 hK133
            apply wp_region_lit
            refine sa _ rfl hk rfl rfl rfl fun a hk => ?_
            show wpList _ _ _ [] _ _
            refine wpList_nil ?_
            refine hK133 _ _ ?_
            obtain ⟨o137, h138, HL139⟩ := bind_some H
            clear H
            obtain ⟨R140, hR140⟩ : ∃ R : Act → World → Prop, R = fun a w => o137 = .out () ∧ Kn [] 195 a ∧ Sat [] w0 w [(1, k0_), (2, k1_)] [] := ⟨_, rfl⟩
            refine wp_cutq R140 ?_ ?_
            · refine wp_block ?_
              obtain ⟨fu142, h138⟩ := loopO_some h138
              obtain ⟨I141, hI141⟩ : ∃ I : Nat → Act → World → Prop, I = fun fu a w => ∃ (u136 : Int), loopN (fun s => laws_FnMap.s0 y14 y21 y63 s) fu u136 = some o137 ∧ Kn [(5, (.slice A17 y14.length p18)), (6, (.int .i64 (w64 (1 + y21)))), (14, (.slice A65 y63.1.length p66)), (24, (.int .i64 u136))] 195 a ∧ Sat [] w0 w [(1, k0_), (2, k1_)] [(4, k16), (10, k67)] := ⟨_, rfl⟩
              refine wp_loop_ghost I141 fu142 ?_ ?_
              · rw [hI141]
                exact ⟨0, h138, (hk.c 5 rfl (hk.c 6 rfl (hk.c 14 rfl (hk.c 24 rfl hk.k)))), (hs.pick [(4, 4), (10, 10)] rfl)⟩
              · clear h138 hk hs
                intro fu142 a w hI0
                rw [hI141] at hI0
                obtain ⟨u136, hi, hk, hs⟩ := hI0
                obtain ⟨x143, H, h144⟩ := loop_round hi
                try dsimp only at H
                unfold laws_FnMap.s0 at H
                apply wp_seq_k; intro K145 hK145
                apply wp_seq_k; intro K146 hK146
                apply wp_region_lit
                refine sm _ rfl hk rfl rfl rfl fun a hk => ?_
                refine sm _ rfl hk rfl rfl rfl fun a hk => ?_
                refine sle rfl hk rfl rfl rfl un26 fun a hk => ?_
                refine sv (.bool (decide (u136 < (y14.length : Int)))) hk rfl rfl rfl fun a hk => ?_
                show wpList _ _ _ [] _ _
                refine wpList_nil ?_
                refine hK146 _ _ ?_
                rcases cond_some H with ⟨c147, H⟩ | ⟨c147, H⟩
                · have hk := hk.lit 162 c147 rfl
                  refine cnd_true hk rfl rfl ?_
                  refine wp_skip ?_
                  refine hK145 _ _ ?_
                  apply wp_seq_k; intro K148 hK148
                  refine wp_block ?_
                  apply wp_seq_k; intro K149 hK149
                  apply wp_region_lit
                  refine sm _ rfl hk rfl rfl rfl fun a hk => ?_
                  refine sm _ rfl hk rfl rfl rfl fun a hk => ?_
                  refine sm _ rfl hk rfl rfl rfl fun a hk => ?_
                  rcases ite_some H with ⟨c150, H⟩ | ⟨_, H⟩
                  rotate_left
                  · cases H
                  obtain ⟨b151, q152, hAc150⟩ := (v19).some_ u136 c150.1 c150.2
                  refine si rfl hk rfl rfl rfl rfl un26 sz62 c150.1 c150.2 hAc150 fun a hk => ?_
                  refine sf (padd A17 (u136.toNat * 2 + 0)) rfl hk rfl rfl rfl fd62_0 (padd_add _ _ _) fun a hk => ?_
                  obtain ⟨_, rfl, e153⟩ := (v19).at_ z_Entry u136 c150.1 c150.2
                  refine sl (v := (.int .i64 ((y14.getD u136.toNat z_Entry).Key))) rfl hk rfl rfl rfl ag3 ((e153 0 _ rfl).cell (Has.app (hs.hasD (k := 1) rfl) (hs.hasG (k := 4) rfl))) fun a hk => ?_
                  obtain ⟨y154, h155, H⟩ := bind_some H
                  refine sc rfl en34 hk rfl rfl rfl (impl_MapGet_t _ A65 p66 y63.1 _ o68.view (hs.hasG (k := 10) rfl) ((y14.getD u136.toNat z_Entry).Key) _ h155) ?_
                  rintro _ w ⟨rfl, hG⟩ a hk
                  have hs := hs.call0 hG
                  refine sm _ rfl hk rfl rfl rfl fun a hk => ?_
                  refine sv (.int .i64 y154.1) hk rfl rfl rfl fun a hk => ?_
                  refine sv (.int .i64 y154.2) hk rfl rfl rfl fun a hk => ?_
                  refine sa _ rfl hk rfl rfl rfl fun a hk => ?_
                  refine sa _ rfl hk rfl rfl rfl fun a hk => ?_
                  show wpList _ _ _ [] _ _
                  refine wpList_nil ?_
                  refine hK149 _ _ ?_
                  apply wp_seq_k; intro K156 hK156
                  obtain ⟨o159, h160, HL161⟩ := bind_some H
                  clear H
                  obtain ⟨R162, hR162⟩ : ∃ R : Act → World → Prop, R = fun a w => ∃ (u158 : Bool), u158 = o159 ∧ Kn [(5, (.slice A17 y14.length p18)), (6, (.int .i64 (w64 (1 + y21)))), (14, (.slice A65 y63.1.length p66)), (24, (.int .i64 u136)), (194, (.bool u158))] 195 a ∧ Sat [] w0 w [(1, k0_), (2, k1_)] [(4, k16), (10, k67)] := ⟨_, rfl⟩
                  refine wp_cutq R162 ?_ ?_
                  · have H := h160
                    apply wp_region_lit
                    refine sm _ rfl hk rfl rfl rfl fun a hk => ?_
                    refine sm _ rfl hk rfl rfl rfl fun a hk => ?_
                    rcases ite_some H with ⟨c163, H⟩ | ⟨_, H⟩
                    rotate_left
                    · cases H
                    obtain ⟨b164, q165, hAc163⟩ := (v19).some_ u136 c163.1 c163.2
                    refine si rfl hk rfl rfl rfl rfl un26 sz62 c163.1 c163.2 hAc163 fun a hk => ?_
                    refine sf (padd A17 (u136.toNat * 2 + 0)) rfl hk rfl rfl rfl fd62_0 (padd_add _ _ _) fun a hk => ?_
                    obtain ⟨_, rfl, e166⟩ := (v19).at_ z_Entry u136 c163.1 c163.2
                    refine sl (v := (.int .i64 ((y14.getD u136.toNat z_Entry).Key))) rfl hk rfl rfl rfl ag3 ((e166 0 _ rfl).cell (Has.app (hs.hasD (k := 1) rfl) (hs.hasG (k := 4) rfl))) fun a hk => ?_
                    refine sm _ rfl hk rfl rfl rfl fun a hk => ?_
                    refine sv (.bool (((y14.getD u136.toNat z_Entry).Key) != (w64 (1 + y21)))) hk rfl rfl rfl fun a hk => ?_
                    refine sm _ rfl hk rfl rfl rfl fun a hk => ?_
                    rcases cond_some H with ⟨c167, H⟩ | ⟨c167, H⟩
                    · have hk := hk.lit 182 c167 rfl
                      refine sm _ rfl hk rfl rfl rfl fun a hk => ?_
                      refine sv (.bool (y154.2 != 0)) hk rfl rfl rfl fun a hk => ?_
                      refine sm _ rfl hk rfl rfl rfl fun a hk => ?_
                      rcases cond_some H with ⟨c168, H⟩ | ⟨c168, H⟩
                      · have hk := hk.lit 185 c168 rfl
                        refine sk hk rfl rfl rfl fun a hk => ?_
                        refine sk hk rfl rfl rfl fun a hk => ?_
                        refine sk hk rfl rfl rfl fun a hk => ?_
                        refine sk hk rfl rfl rfl fun a hk => ?_
                        refine sk hk rfl rfl rfl fun a hk => ?_
                        refine sk hk rfl rfl rfl fun a hk => ?_
                        refine sk hk rfl rfl rfl fun a hk => ?_
                        refine sv (.bool true) hk rfl rfl rfl fun a hk => ?_
                        refine sv (.bool true) hk rfl rfl rfl fun a hk => ?_
                        show wpList _ _ _ [] _ _
                        refine wpList_nil ?_
                        obtain rfl := Option.some.inj H
                        show R162 _ _
                        rw [hR162]
                        exact ⟨true, rfl, (hk.c 5 rfl (hk.c 6 rfl (hk.c 14 rfl (hk.c 24 rfl (hk.c 194 rfl hk.k))))), (hs.pick [(4, 4), (10, 10)] rfl)⟩
                      · have hk := hk.lit 185 c168 rfl
                        refine sm _ rfl hk rfl rfl rfl fun a hk => ?_
                        refine sm _ rfl hk rfl rfl rfl fun a hk => ?_
                        refine sm _ rfl hk rfl rfl rfl fun a hk => ?_
                        rcases ite_some H with ⟨c169, H⟩ | ⟨_, H⟩
                        rotate_left
                        · cases H
                        obtain ⟨b170, q171, hAc169⟩ := (v19).some_ u136 c169.1 c169.2
                        refine si rfl hk rfl rfl rfl rfl un26 sz62 c169.1 c169.2 hAc169 fun a hk => ?_
                        refine sf (padd A17 (u136.toNat * 2 + 1)) rfl hk rfl rfl rfl fd62_1 (padd_add _ _ _) fun a hk => ?_
                        obtain ⟨_, rfl, e172⟩ := (v19).at_ z_Entry u136 c169.1 c169.2
                        refine sl (v := (.int .i64 ((y14.getD u136.toNat z_Entry).Value))) rfl hk rfl rfl rfl ag3 ((e172 1 _ rfl).cell (Has.app (hs.hasD (k := 1) rfl) (hs.hasG (k := 4) rfl))) fun a hk => ?_
                        refine sv (.bool (y154.1 != ((y14.getD u136.toNat z_Entry).Value))) hk rfl rfl rfl fun a hk => ?_
                        refine sv (.bool (y154.1 != ((y14.getD u136.toNat z_Entry).Value))) hk rfl rfl rfl fun a hk => ?_
                        refine sv (.bool (y154.1 != ((y14.getD u136.toNat z_Entry).Value))) hk rfl rfl rfl fun a hk => ?_
                        show wpList _ _ _ [] _ _
                        refine wpList_nil ?_
                        obtain rfl := Option.some.inj H
                        show R162 _ _
                        rw [hR162]
                        exact ⟨(y154.1 != ((y14.getD u136.toNat z_Entry).Value)), rfl, (hk.c 5 rfl (hk.c 6 rfl (hk.c 14 rfl (hk.c 24 rfl (hk.c 194 rfl hk.k))))), (hs.pick [(4, 4), (10, 10)] rfl)⟩
                    · have hk := hk.lit 182 c167 rfl
                      refine sk hk rfl rfl rfl fun a hk => ?_
                      refine sk hk rfl rfl rfl fun a hk => ?_
                      refine sk hk rfl rfl rfl fun a hk => ?_
                      refine sk hk rfl rfl rfl fun a hk => ?_
                      refine sk hk rfl rfl rfl fun a hk => ?_
                      refine sk hk rfl rfl rfl fun a hk => ?_
                      refine sk hk rfl rfl rfl fun a hk => ?_
                      refine sk hk rfl rfl rfl fun a hk => ?_
                      refine sk hk rfl rfl rfl fun a hk => ?_
                      refine sk hk rfl rfl rfl fun a hk => ?_
                      refine sk hk rfl rfl rfl fun a hk => ?_
                      refine sv (.bool false) hk rfl rfl rfl fun a hk => ?_
                      show wpList _ _ _ [] _ _
                      refine wpList_nil ?_
                      obtain rfl := Option.some.inj H
                      show R162 _ _
                      rw [hR162]
                      exact ⟨false, rfl, (hk.c 5 rfl (hk.c 6 rfl (hk.c 14 rfl (hk.c 24 rfl (hk.c 194 rfl hk.k))))), (hs.pick [(4, 4), (10, 10)] rfl)⟩
                  · intro a w hR0
                    rw [hR162] at hR0
                    obtain ⟨u158, rfl, hk, hs⟩ := hR0
                    have H := HL161
                    try dsimp only at H
                    refine hK156 _ _ ?_
                    rcases cond_some H with ⟨c173, H⟩ | ⟨c173, H⟩
                    · have hk := hk.lit 194 c173 rfl
                      refine cnd_true hk rfl rfl ?_
                      apply wp_seq_k; intro K174 hK174
                      apply wp_region_lit
                      refine sa _ rfl hk rfl rfl rfl fun a hk => ?_
                      show wpList _ _ _ [] _ _
                      refine wpList_nil ?_
                      refine hK174 _ _ ?_
                      refine wp_ret ?_
                      obtain rfl := Option.some.inj H
                      have ho137 := h144
                      try dsimp only at ho137
                      subst ho137
                      have H := HL139
                      try dsimp only at H
                      obtain rfl := Option.some.inj H
                      exact fin hk _ [(.bool false)] rfl ⟨rfl, trivial⟩ ⟨rfl, (hs.pick [] rfl).dnil⟩
                    · have hk := hk.lit 194 c173 rfl
                      refine cnd_false hk rfl rfl ?_
                      refine wp_skip ?_
                      refine hK148 _ _ ?_
                      apply wp_region_lit
                      refine sm _ rfl hk rfl rfl rfl fun a hk => ?_
                      refine sv (.int .i64 (w64 (u136 + 1))) hk rfl rfl rfl fun a hk => ?_
                      refine sa _ rfl hk rfl rfl rfl fun a hk => ?_
                      show wpList _ _ _ [] _ _
                      refine wpList_nil ?_
                      obtain rfl := Option.some.inj H
                      obtain ⟨m175, hmm175, h144⟩ := h144
                      show ∃ n', n' < _ ∧ I141 n' _ _
                      refine ⟨m175, hmm175, ?_⟩
                      rw [hI141]
                      exact ⟨(w64 (u136 + 1)), h144, (hk.c 5 rfl (hk.c 6 rfl (hk.c 14 rfl (hk.c 24 rfl hk.k)))), (hs.pick [(4, 4), (10, 10)] rfl)⟩
                · have hk := hk.lit 162 c147 rfl
                  refine cnd_false hk rfl rfl ?_
                  refine wp_exit ?_
                  obtain rfl := Option.some.inj H
                  show R140 _ _
                  rw [hR140]
                  exact ⟨h144.symm, hk.k, (hs.pick [] rfl)⟩
            · intro a w hR0
              rw [hR140] at hR0
              obtain ⟨rfl, hk, hs⟩ := hR0
              have H := HL139
              try dsimp only at H
              refine hK132 _ _ ?_
              apply wp_seq_k; intro K176 hK176
              apply wp_region_lit
              refine sa _ rfl hk rfl rfl rfl fun a hk => ?_
              show wpList _ _ _ [] _ _
              refine wpList_nil ?_
              refine hK176 _ _ ?_
              refine wp_ret ?_
              obtain rfl := Option.some.inj H
              exact fin hk _ [(.bool true)] rfl ⟨rfl, trivial⟩ ⟨rfl, (hs.pick [] rfl).dnil⟩

end Go.Proofs.Ytlbbkehdfgjneaa
