/- Further functions. -/
import Derived.Test.YtlbbkehdfgjneaaGFScann1
namespace Go.Proofs.Ytlbbkehdfgjneaa
open Go Go.Z Go.Proofs Go.MuLone Go.ChangeShapes Go.WideShapes Go.ChangeAt Go.RowKit
set_option linter.unusedVariables false
set_option linter.unusedSimpArgs false
noncomputable def laws_at.f (l0 : List Int) (x1 : Int) (x2 : Int) : Option (Int) :=
  (bif (decide (x2 ≤ 1)) then (some 0) else (bif ((l0.length : Int) == 0) then (if x2 = 0 then none else (some (Int.tmod (w64 (x1 * 7)) x2))) else (if (l0.length : Int) = 0 then none else (if 0 ≤ (Int.tmod x1 (l0.length : Int)) ∧ (Int.tmod x1 (l0.length : Int)) < (l0.length : Int) then (if (l0.length : Int) = 0 then none else (if 0 ≤ (Int.tmod (w64 (x1 + 1)) (l0.length : Int)) ∧ (Int.tmod (w64 (x1 + 1)) (l0.length : Int)) < (l0.length : Int) then (if (l0.length : Int) = 0 then none else (if x2 = 0 then none else (some (Int.tmod (w64 ((w64 ((w64 ((IntKind.wrap .i64 (l0.getD (Int.tmod x1 (l0.length : Int)).toNat 0)) * 31)) + (IntKind.wrap .i64 (l0.getD (Int.tmod (w64 (x1 + 1)) (l0.length : Int)).toNat 0)))) + (IntKind.wrap .i64 (Int.tdiv x1 (l0.length : Int))))) x2)))) else none)) else none))))
set_option maxRecDepth 100000 in
set_option maxHeartbeats 0 in
theorem laws_at_t (w0 : World) (A0_ : Option Addr) (p0_ : Nat) (l0 : List Int) (k0_ : Chunk) (v0_ : View (Lay.int .u8) A0_ p0_ l0 k0_) (w0_ : Has w0 k0_) (x1 : Int) (x2 : Int) (r : Int) (H : laws_at.f l0 x1 x2 = some r) :
    Calls Try.prog 32 #[.slice A0_ l0.length p0_, .int .i64 x1, .int .i64 x2] w0 (Ret (fun v w => v = .int .i64 r ∧ Sat [] w0 w [] [])) := by
  have hs : Sat [] w0 w0 [(1, k0_)] [] := Sat.init w0 [(1, k0_)] [] (by simp only [List.mem_cons, List.not_mem_nil, or_false]; rintro x (rfl) <;> assumption) (by simp) List.nodup_nil (by simp [blks])
  unfold laws_at.f at H
  refine enter Try.func32 rfl Try.ntmps32 rfl fun a hk => ?_
  apply wp_seq_k; intro K1 hK1
  apply wp_region_lit
  refine sa _ rfl hk rfl rfl rfl fun a hk => ?_
  show wpList _ _ _ [] _ _
  refine wpList_nil ?_
  refine hK1 _ _ ?_
  apply wp_seq_k; intro K2 hK2
  apply wp_seq_k; intro K3 hK3
  apply wp_region_lit
  refine sm _ rfl hk rfl rfl rfl fun a hk => ?_
  refine sv (.bool (decide (x2 ≤ 1))) hk rfl rfl rfl fun a hk => ?_
  show wpList _ _ _ [] _ _
  refine wpList_nil ?_
  refine hK3 _ _ ?_
  rcases cond_some H with ⟨c4, H⟩ | ⟨c4, H⟩
  · have hk := hk.lit 8 c4 rfl
    refine cnd_true hk rfl rfl ?_
    apply wp_seq_k; intro K5 hK5
    apply wp_region_lit
    refine sa _ rfl hk rfl rfl rfl fun a hk => ?_
    show wpList _ _ _ [] _ _
    refine wpList_nil ?_
    refine hK5 _ _ ?_
    refine wp_ret ?_
    obtain rfl := Option.some.inj H
    exact fin hk _ [(.int .i64 0)] rfl ⟨rfl, trivial⟩ ⟨rfl, (hs.pick [] rfl).dnil⟩
  · have hk := hk.lit 8 c4 rfl
    refine cnd_false hk rfl rfl ?_
    refine wp_skip ?_
    refine hK2 _ _ ?_
    apply wp_seq_k; intro K6 hK6
    apply wp_seq_k; intro K7 hK7
    apply wp_region_lit
    refine sm _ rfl hk rfl rfl rfl fun a hk => ?_
    refine sle rfl hk rfl rfl rfl un55 fun a hk => ?_
    refine sv (.bool ((l0.length : Int) == 0)) hk rfl rfl rfl fun a hk => ?_
    show wpList _ _ _ [] _ _
    refine wpList_nil ?_
    refine hK7 _ _ ?_
    rcases cond_some H with ⟨c8, H⟩ | ⟨c8, H⟩
    · have hk := hk.lit 11 c8 rfl
      refine cnd_true hk rfl rfl ?_
      apply wp_seq_k; intro K9 hK9
      apply wp_region_lit
      refine sm _ rfl hk rfl rfl rfl fun a hk => ?_
      refine sv (.int .i64 (w64 (x1 * 7))) hk rfl rfl rfl fun a hk => ?_
      refine sm _ rfl hk rfl rfl rfl fun a hk => ?_
      rcases ite_some H with ⟨_, H⟩ | ⟨c10, H⟩
      · cases H
      refine srm rfl hk rfl rfl rfl rfl c10 fun a hk => ?_
      refine sa _ rfl hk rfl rfl rfl fun a hk => ?_
      show wpList _ _ _ [] _ _
      refine wpList_nil ?_
      refine hK9 _ _ ?_
      refine wp_ret ?_
      obtain rfl := Option.some.inj H
      exact fin hk _ [(.int .i64 (Int.tmod (w64 (x1 * 7)) x2))] rfl ⟨rfl, trivial⟩ ⟨rfl, (hs.pick [] rfl).dnil⟩
    · have hk := hk.lit 11 c8 rfl
      refine cnd_false hk rfl rfl ?_
      refine wp_skip ?_
      refine hK6 _ _ ?_
      apply wp_seq_k; intro K11 hK11
      refine wp_region_tree (.q 0 (.q 1 (.q 2 (.q 3 (.q 4 (.q 5 (.q 6 (.q 7 (.q 8 (.q 9 (.q 10 (.q 11 (.q 12 (.q 13 (.q 14 (.q 15 (.q 16 (.q 17 (.q 18 (.q 19 (.q 20 (.q 21 (.q 22 (.q 23 (.alt 24 (.alt 25 (.last 26) .stop) .stop))))))))))))))))))))))))) mo (by kernel_rfl) (hs.pick [] rfl) fun _ => ?_
      have hs := hs.drew
      refine tqst (.slice A0_ l0.length p0_) hk rfl rfl rfl rfl (fun w hs => sm _ rfl hk rfl rfl rfl fun a hk => qe hk) fun a hk => ?_
      refine tqst (.int .i64 x1) hk rfl rfl rfl rfl (fun w hs => sm _ rfl hk rfl rfl rfl fun a hk => qe hk) fun a hk => ?_
      refine tqst (.slice A0_ l0.length p0_) hk rfl rfl rfl rfl (fun w hs => sm _ rfl hk rfl rfl rfl fun a hk => qe hk) fun a hk => ?_
      refine tqst (.int .i64 (l0.length : Int)) hk rfl rfl rfl rfl (fun w hs => sle rfl hk rfl rfl rfl un55 fun a hk => qe hk) fun a hk => ?_
      rcases ite_some H with ⟨_, H⟩ | ⟨c13, H⟩
      · cases H
      refine tqst (.int .i64 (Int.tmod x1 (l0.length : Int))) hk rfl rfl rfl rfl (fun w hs => srm rfl hk rfl rfl rfl rfl c13 fun a hk => qe hk) fun a hk => ?_
      rcases ite_some H with ⟨c14, H⟩ | ⟨_, H⟩
      rotate_left
      · cases H
      obtain ⟨b15, q16, hAc14⟩ := (v0_).some_ (Int.tmod x1 (l0.length : Int)) c14.1 c14.2
      refine tqst (.pointer (some (padd A0_ ((Int.tmod x1 (l0.length : Int)).toNat * 1)))) hk rfl rfl rfl rfl (fun w hs => si rfl hk rfl rfl rfl rfl un55 sz5 c14.1 c14.2 hAc14 fun a hk => qe hk) fun a hk => ?_
      obtain ⟨_, rfl, e17⟩ := (v0_).at_ 0 (Int.tmod x1 (l0.length : Int)) c14.1 c14.2
      refine tqst (.int .u8 (l0.getD (Int.tmod x1 (l0.length : Int)).toNat 0)) hk rfl rfl rfl rfl (fun w hs => sl (v := (.int .u8 (l0.getD (Int.tmod x1 (l0.length : Int)).toNat 0))) rfl hk rfl rfl rfl ag5 ((e17 0 _ rfl).cell (hs.hasD (k := 1) rfl)) fun a hk => qe hk) fun a hk => ?_
      refine tqst (.int .i64 (IntKind.wrap .i64 (l0.getD (Int.tmod x1 (l0.length : Int)).toNat 0))) hk rfl rfl rfl rfl (fun w hs => scn rfl hk rfl rfl rfl un3 un5 fun a hk => qe hk) fun a hk => ?_
      refine tqst (.int .i64 (w64 ((IntKind.wrap .i64 (l0.getD (Int.tmod x1 (l0.length : Int)).toNat 0)) * 31))) hk rfl rfl rfl rfl (fun w hs => sv (.int .i64 (w64 ((IntKind.wrap .i64 (l0.getD (Int.tmod x1 (l0.length : Int)).toNat 0)) * 31))) hk rfl rfl rfl fun a hk => qe hk) fun a hk => ?_
      refine tqst (.slice A0_ l0.length p0_) hk rfl rfl rfl rfl (fun w hs => sm _ rfl hk rfl rfl rfl fun a hk => qe hk) fun a hk => ?_
      refine tqst (.int .i64 x1) hk rfl rfl rfl rfl (fun w hs => sm _ rfl hk rfl rfl rfl fun a hk => qe hk) fun a hk => ?_
      refine tqst (.int .i64 (w64 (x1 + 1))) hk rfl rfl rfl rfl (fun w hs => sv (.int .i64 (w64 (x1 + 1))) hk rfl rfl rfl fun a hk => qe hk) fun a hk => ?_
      refine tqst (.slice A0_ l0.length p0_) hk rfl rfl rfl rfl (fun w hs => sm _ rfl hk rfl rfl rfl fun a hk => qe hk) fun a hk => ?_
      refine tqst (.int .i64 (l0.length : Int)) hk rfl rfl rfl rfl (fun w hs => sle rfl hk rfl rfl rfl un55 fun a hk => qe hk) fun a hk => ?_
      rcases ite_some H with ⟨_, H⟩ | ⟨c18, H⟩
      · cases H
      refine tqst (.int .i64 (Int.tmod (w64 (x1 + 1)) (l0.length : Int))) hk rfl rfl rfl rfl (fun w hs => srm rfl hk rfl rfl rfl rfl c18 fun a hk => qe hk) fun a hk => ?_
      rcases ite_some H with ⟨c19, H⟩ | ⟨_, H⟩
      rotate_left
      · cases H
      obtain ⟨b20, q21, hAc19⟩ := (v0_).some_ (Int.tmod (w64 (x1 + 1)) (l0.length : Int)) c19.1 c19.2
      refine tqst (.pointer (some (padd A0_ ((Int.tmod (w64 (x1 + 1)) (l0.length : Int)).toNat * 1)))) hk rfl rfl rfl rfl (fun w hs => si rfl hk rfl rfl rfl rfl un55 sz5 c19.1 c19.2 hAc19 fun a hk => qe hk) fun a hk => ?_
      obtain ⟨_, rfl, e22⟩ := (v0_).at_ 0 (Int.tmod (w64 (x1 + 1)) (l0.length : Int)) c19.1 c19.2
      refine tqst (.int .u8 (l0.getD (Int.tmod (w64 (x1 + 1)) (l0.length : Int)).toNat 0)) hk rfl rfl rfl rfl (fun w hs => sl (v := (.int .u8 (l0.getD (Int.tmod (w64 (x1 + 1)) (l0.length : Int)).toNat 0))) rfl hk rfl rfl rfl ag5 ((e22 0 _ rfl).cell (hs.hasD (k := 1) rfl)) fun a hk => qe hk) fun a hk => ?_
      refine tqst (.int .i64 (IntKind.wrap .i64 (l0.getD (Int.tmod (w64 (x1 + 1)) (l0.length : Int)).toNat 0))) hk rfl rfl rfl rfl (fun w hs => scn rfl hk rfl rfl rfl un3 un5 fun a hk => qe hk) fun a hk => ?_
      refine tqst (.int .i64 (w64 ((w64 ((IntKind.wrap .i64 (l0.getD (Int.tmod x1 (l0.length : Int)).toNat 0)) * 31)) + (IntKind.wrap .i64 (l0.getD (Int.tmod (w64 (x1 + 1)) (l0.length : Int)).toNat 0))))) hk rfl rfl rfl rfl (fun w hs => sv (.int .i64 (w64 ((w64 ((IntKind.wrap .i64 (l0.getD (Int.tmod x1 (l0.length : Int)).toNat 0)) * 31)) + (IntKind.wrap .i64 (l0.getD (Int.tmod (w64 (x1 + 1)) (l0.length : Int)).toNat 0))))) hk rfl rfl rfl fun a hk => qe hk) fun a hk => ?_
      refine tqst (.int .i64 x1) hk rfl rfl rfl rfl (fun w hs => sm _ rfl hk rfl rfl rfl fun a hk => qe hk) fun a hk => ?_
      refine tqst (.slice A0_ l0.length p0_) hk rfl rfl rfl rfl (fun w hs => sm _ rfl hk rfl rfl rfl fun a hk => qe hk) fun a hk => ?_
      refine tqst (.int .i64 (l0.length : Int)) hk rfl rfl rfl rfl (fun w hs => sle rfl hk rfl rfl rfl un55 fun a hk => qe hk) fun a hk => ?_
      rcases ite_some H with ⟨_, H⟩ | ⟨c23, H⟩
      · cases H
      refine tqst (.int .i64 (IntKind.wrap .i64 (Int.tdiv x1 (l0.length : Int)))) hk rfl rfl rfl rfl (fun w hs => sqo rfl hk rfl rfl rfl rfl c23 fun a hk => qe hk) fun a hk => ?_
      refine tqst (.int .i64 (w64 ((w64 ((w64 ((IntKind.wrap .i64 (l0.getD (Int.tmod x1 (l0.length : Int)).toNat 0)) * 31)) + (IntKind.wrap .i64 (l0.getD (Int.tmod (w64 (x1 + 1)) (l0.length : Int)).toNat 0)))) + (IntKind.wrap .i64 (Int.tdiv x1 (l0.length : Int)))))) hk rfl rfl rfl rfl (fun w hs => sv (.int .i64 (w64 ((w64 ((w64 ((IntKind.wrap .i64 (l0.getD (Int.tmod x1 (l0.length : Int)).toNat 0)) * 31)) + (IntKind.wrap .i64 (l0.getD (Int.tmod (w64 (x1 + 1)) (l0.length : Int)).toNat 0)))) + (IntKind.wrap .i64 (Int.tdiv x1 (l0.length : Int)))))) hk rfl rfl rfl fun a hk => qe hk) fun a hk => ?_
      refine tsst hk rfl rfl (fun K_r12_24 hK_r12_24 w hF => ?_) wt_stop
      have hs := hs.f hF
      refine sm _ rfl hk rfl rfl rfl fun a hk => ?_
      refine se (hs.pick [] rfl) hk (hK_r12_24 _ _ ?_)
      refine tsst hk rfl rfl (fun K_r12_25 hK_r12_25 w hF => ?_) wt_stop
      have hs := hs.f hF
      rcases ite_some H with ⟨_, H⟩ | ⟨c24, H⟩
      · cases H
      refine srm rfl hk rfl rfl rfl rfl c24 fun a hk => ?_
      refine se (hs.pick [] rfl) hk (hK_r12_25 _ _ ?_)
      refine tlst hk rfl rfl fun K_r12_26 hK_r12_26 w hF => ?_
      have hs := hs.f hF
      refine sa _ rfl hk rfl rfl rfl fun a hk => ?_
      refine se trivial hk (hK_r12_26 _ _ fun w hF => ?_)
      have hs := hs.f hF
      refine hK11 _ _ ?_
      refine wp_ret ?_
      obtain rfl := Option.some.inj H
      exact fin hk _ [(.int .i64 (Int.tmod (w64 ((w64 ((w64 ((IntKind.wrap .i64 (l0.getD (Int.tmod x1 (l0.length : Int)).toNat 0)) * 31)) + (IntKind.wrap .i64 (l0.getD (Int.tmod (w64 (x1 + 1)) (l0.length : Int)).toNat 0)))) + (IntKind.wrap .i64 (Int.tdiv x1 (l0.length : Int))))) x2))] rfl ⟨rfl, trivial⟩ ⟨rfl, (hs.pick [] rfl).dnil⟩

noncomputable def laws_sameEntries.s0 (l0 : List S_Entry) (l1 : List S_Entry) (u10 : Int) : Option ((Int) ⊕ Ex (Unit) (Bool)) :=
  (bif (decide (u10 < (l0.length : Int))) then (if 0 ≤ u10 ∧ u10 < (l0.length : Int) then (if 0 ≤ u10 ∧ u10 < (l1.length : Int) then (bif (!((((l0.getD u10.toNat z_Entry).Key) == ((l1.getD u10.toNat z_Entry).Key)) && ((((l0.getD u10.toNat z_Entry).Value) == ((l1.getD u10.toNat z_Entry).Value)) && true))) then (some (.inr (.ret false))) else (some (.inl (w64 (u10 + 1))))) else none) else none) else (some (.inr (.out ()))))
noncomputable def laws_sameEntries.f (l0 : List S_Entry) (l1 : List S_Entry) : Option (Bool) :=
  (bif ((l0.length : Int) != (l1.length : Int)) then (some false) else ((loopO (fun s => laws_sameEntries.s0 l0 l1 s) 0).bind fun o => match o with | .out _ => (some true) | .ret r => (some r)))
set_option maxRecDepth 100000 in
set_option maxHeartbeats 0 in
theorem laws_sameEntries_t (w0 : World) (A0_ : Option Addr) (p0_ : Nat) (l0 : List S_Entry) (k0_ : Chunk) (v0_ : View L_Entry A0_ p0_ l0 k0_) (w0_ : Has w0 k0_) (A1_ : Option Addr) (p1_ : Nat) (l1 : List S_Entry) (k1_ : Chunk) (v1_ : View L_Entry A1_ p1_ l1 k1_) (w1_ : Has w0 k1_) (r : Bool) (H : laws_sameEntries.f l0 l1 = some r) :
    Calls Try.prog 33 #[.slice A0_ l0.length p0_, .slice A1_ l1.length p1_] w0 (Ret (fun v w => v = .bool r ∧ Sat [] w0 w [] [])) := by
  have hs : Sat [] w0 w0 [(1, k0_), (2, k1_)] [] := Sat.init w0 [(1, k0_), (2, k1_)] [] (by simp only [List.mem_cons, List.not_mem_nil, or_false]; rintro x (rfl | rfl) <;> assumption) (by simp) List.nodup_nil (by simp [blks])
  unfold laws_sameEntries.f at H
  refine enter Try.func33 rfl Try.ntmps33 rfl fun a hk => ?_
  apply wp_seq_k; intro K1 hK1
  apply wp_region_lit
  refine sa _ rfl hk rfl rfl rfl fun a hk => ?_
  show wpList _ _ _ [] _ _
  refine wpList_nil ?_
  refine hK1 _ _ ?_
  apply wp_seq_k; intro K2 hK2
  apply wp_seq_k; intro K3 hK3
  apply wp_region_lit
  refine sm _ rfl hk rfl rfl rfl fun a hk => ?_
  refine sle rfl hk rfl rfl rfl un26 fun a hk => ?_
  refine sm _ rfl hk rfl rfl rfl fun a hk => ?_
  refine sle rfl hk rfl rfl rfl un26 fun a hk => ?_
  refine sv (.bool ((l0.length : Int) != (l1.length : Int))) hk rfl rfl rfl fun a hk => ?_
  show wpList _ _ _ [] _ _
  refine wpList_nil ?_
  refine hK3 _ _ ?_
  rcases cond_some H with ⟨c4, H⟩ | ⟨c4, H⟩
  · have hk := hk.lit 10 c4 rfl
    refine cnd_true hk rfl rfl ?_
    apply wp_seq_k; intro K5 hK5
    apply wp_region_lit
    refine sa _ rfl hk rfl rfl rfl fun a hk => ?_
    show wpList _ _ _ [] _ _
    refine wpList_nil ?_
    refine hK5 _ _ ?_
    refine wp_ret ?_
    obtain rfl := Option.some.inj H
    exact fin hk _ [(.bool false)] rfl ⟨rfl, trivial⟩ ⟨rfl, (hs.pick [] rfl).dnil⟩
  · have hk := hk.lit 10 c4 rfl
    refine cnd_false hk rfl rfl ?_
    refine wp_skip ?_
    refine hK2 _ _ ?_
    apply wp_seq_k; intro K6 hK6
    apply wp_seq_k; intro K7 hK7
    apply wp_region_lit
    refine sa _ rfl hk rfl rfl rfl fun a hk => ?_
    show wpList _ _ _ [] _ _
    refine wpList_nil ?_
    refine hK7 _ _ ?_
    obtain ⟨o11, h12, HL13⟩ := bind_some H
    clear H
    obtain ⟨R14, hR14⟩ : ∃ R : Act → World → Prop, R = fun a w => o11 = .out () ∧ Kn [] 26 a ∧ Sat [] w0 w [(1, k0_), (2, k1_)] [] := ⟨_, rfl⟩
    refine wp_cutq R14 ?_ ?_
    · refine wp_block ?_
      obtain ⟨fu16, h12⟩ := loopO_some h12
      obtain ⟨I15, hI15⟩ : ∃ I : Nat → Act → World → Prop, I = fun fu a w => ∃ (u10 : Int), loopN (fun s => laws_sameEntries.s0 l0 l1 s) fu u10 = some o11 ∧ Kn [(0, (.slice A0_ l0.length p0_)), (1, (.slice A1_ l1.length p1_)), (5, (.int .i64 u10))] 26 a ∧ Sat [] w0 w [(1, k0_), (2, k1_)] [] := ⟨_, rfl⟩
      refine wp_loop_ghost I15 fu16 ?_ ?_
      · rw [hI15]
        exact ⟨0, h12, (hk.c 0 rfl (hk.c 1 rfl (hk.c 5 rfl hk.k))), (hs.pick [] rfl)⟩
      · clear h12 hk hs
        intro fu16 a w hI0
        rw [hI15] at hI0
        obtain ⟨u10, hi, hk, hs⟩ := hI0
        obtain ⟨x17, H, h18⟩ := loop_round hi
        try dsimp only at H
        unfold laws_sameEntries.s0 at H
        apply wp_seq_k; intro K19 hK19
        apply wp_seq_k; intro K20 hK20
        apply wp_region_lit
        refine sm _ rfl hk rfl rfl rfl fun a hk => ?_
        refine sm _ rfl hk rfl rfl rfl fun a hk => ?_
        refine sle rfl hk rfl rfl rfl un26 fun a hk => ?_
        refine sv (.bool (decide (u10 < (l0.length : Int)))) hk rfl rfl rfl fun a hk => ?_
        show wpList _ _ _ [] _ _
        refine wpList_nil ?_
        refine hK20 _ _ ?_
        rcases cond_some H with ⟨c21, H⟩ | ⟨c21, H⟩
        · have hk := hk.lit 14 c21 rfl
          refine cnd_true hk rfl rfl ?_
          refine wp_skip ?_
          refine hK19 _ _ ?_
          apply wp_seq_k; intro K22 hK22
          refine wp_block ?_
          apply wp_seq_k; intro K23 hK23
          refine wp_region_tree (.q 0 (.q 1 (.q 2 (.q 3 (.q 4 (.alt 5 (.alt 6 (.alt 7 (.alt 8 .done .stop) .stop) .stop) .stop)))))) mo (by kernel_rfl) (hs.pick [] rfl) fun _ => ?_
          have hs := hs.drew
          refine tqst (.slice A0_ l0.length p0_) hk rfl rfl rfl rfl (fun w hs => sm _ rfl hk rfl rfl rfl fun a hk => qe hk) fun a hk => ?_
          refine tqst (.int .i64 u10) hk rfl rfl rfl rfl (fun w hs => sm _ rfl hk rfl rfl rfl fun a hk => qe hk) fun a hk => ?_
          rcases ite_some H with ⟨c25, H⟩ | ⟨_, H⟩
          rotate_left
          · cases H
          obtain ⟨b26, q27, hAc25⟩ := (v0_).some_ u10 c25.1 c25.2
          refine tqst (.pointer (some (padd A0_ (u10.toNat * 2)))) hk rfl rfl rfl rfl (fun w hs => si rfl hk rfl rfl rfl rfl un26 sz62 c25.1 c25.2 hAc25 fun a hk => qe hk) fun a hk => ?_
          obtain ⟨_, rfl, e28⟩ := (v0_).at_ z_Entry u10 c25.1 c25.2
          refine tqst (.agg #[.int .i64 ((l0.getD u10.toNat z_Entry).Key), .int .i64 ((l0.getD u10.toNat z_Entry).Value)]) hk rfl rfl rfl rfl (fun w hs => sln [.int .i64 ((l0.getD u10.toNat z_Entry).Key), .int .i64 ((l0.getD u10.toNat z_Entry).Value)] rfl hk rfl rfl rfl ag62 sz62 (cells_at e28 (hs.hasD (k := 1) rfl)) fun a hk => qe hk) fun a hk => ?_
          refine tqst (.slice A1_ l1.length p1_) hk rfl rfl rfl rfl (fun w hs => sm _ rfl hk rfl rfl rfl fun a hk => qe hk) fun a hk => ?_
          refine tsst hk rfl rfl (fun K_r24_5 hK_r24_5 w hF => ?_) wt_stop
          have hs := hs.f hF
          refine sm _ rfl hk rfl rfl rfl fun a hk => ?_
          refine se (hs.pick [] rfl) hk (hK_r24_5 _ _ ?_)
          refine tsst hk rfl rfl (fun K_r24_6 hK_r24_6 w hF => ?_) wt_stop
          have hs := hs.f hF
          rcases ite_some H with ⟨c29, H⟩ | ⟨_, H⟩
          rotate_left
          · cases H
          obtain ⟨b30, q31, hAc29⟩ := (v1_).some_ u10 c29.1 c29.2
          refine si rfl hk rfl rfl rfl rfl un26 sz62 c29.1 c29.2 hAc29 fun a hk => ?_
          refine se (hs.pick [] rfl) hk (hK_r24_6 _ _ ?_)
          refine tsst hk rfl rfl (fun K_r24_7 hK_r24_7 w hF => ?_) wt_stop
          have hs := hs.f hF
          obtain ⟨_, rfl, e32⟩ := (v1_).at_ z_Entry u10 c29.1 c29.2
          refine sln [.int .i64 ((l1.getD u10.toNat z_Entry).Key), .int .i64 ((l1.getD u10.toNat z_Entry).Value)] rfl hk rfl rfl rfl ag62 sz62 (cells_at e32 (hs.hasD (k := 2) rfl)) fun a hk => ?_
          refine se (hs.pick [] rfl) hk (hK_r24_7 _ _ ?_)
          refine tsst hk rfl rfl (fun K_r24_8 hK_r24_8 w hF => ?_) wt_stop
          have hs := hs.f hF
          refine snea (r := ((((l0.getD u10.toNat z_Entry).Key) == ((l1.getD u10.toNat z_Entry).Key)) && ((((l0.getD u10.toNat z_Entry).Value) == ((l1.getD u10.toNat z_Entry).Value)) && true))) rfl hk rfl rfl rfl rfl eg62 (eq_agg Try.underlying62 sh62 (eqf_cons rfl ag3 rfl rfl (run_equalIn_int _ _ _ _ _ _ _ un3) (eqf_cons rfl ag3 rfl rfl (run_equalIn_int _ _ _ _ _ _ _ un3) eqf_nil))) fun a hk => ?_
          refine se (hs.pick [] rfl) hk (hK_r24_8 _ _ ?_)
          refine wtl_nil fun w hF _ => ?_
          have hs := hs.f hF
          refine hK23 _ _ ?_
          rcases cond_some H with ⟨c33, H⟩ | ⟨c33, H⟩
          · have hk := hk.lit 25 c33 rfl
            refine cnd_true hk rfl rfl ?_
            apply wp_seq_k; intro K34 hK34
            apply wp_region_lit
            refine sa _ rfl hk rfl rfl rfl fun a hk => ?_
            show wpList _ _ _ [] _ _
            refine wpList_nil ?_
            refine hK34 _ _ ?_
            refine wp_ret ?_
            obtain rfl := Option.some.inj H
            have ho11 := h18
            try dsimp only at ho11
            subst ho11
            have H := HL13
            try dsimp only at H
            obtain rfl := Option.some.inj H
            exact fin hk _ [(.bool false)] rfl ⟨rfl, trivial⟩ ⟨rfl, (hs.pick [] rfl).dnil⟩
          · have hk := hk.lit 25 c33 rfl
            refine cnd_false hk rfl rfl ?_
            refine wp_skip ?_
            refine hK22 _ _ ?_
            apply wp_region_lit
            refine sm _ rfl hk rfl rfl rfl fun a hk => ?_
            refine sv (.int .i64 (w64 (u10 + 1))) hk rfl rfl rfl fun a hk => ?_
            refine sa _ rfl hk rfl rfl rfl fun a hk => ?_
            show wpList _ _ _ [] _ _
            refine wpList_nil ?_
            obtain rfl := Option.some.inj H
            obtain ⟨m35, hmm35, h18⟩ := h18
            show ∃ n', n' < _ ∧ I15 n' _ _
            refine ⟨m35, hmm35, ?_⟩
            rw [hI15]
            exact ⟨(w64 (u10 + 1)), h18, (hk.c 0 rfl (hk.c 1 rfl (hk.c 5 rfl hk.k))), (hs.pick [] rfl)⟩
        · have hk := hk.lit 14 c21 rfl
          refine cnd_false hk rfl rfl ?_
          refine wp_exit ?_
          obtain rfl := Option.some.inj H
          show R14 _ _
          rw [hR14]
          exact ⟨h18.symm, hk.k, (hs.pick [] rfl)⟩
    · intro a w hR0
      rw [hR14] at hR0
      obtain ⟨rfl, hk, hs⟩ := hR0
      have H := HL13
      try dsimp only at H
      refine hK6 _ _ ?_
      apply wp_seq_k; intro K36 hK36
      apply wp_region_lit
      refine sa _ rfl hk rfl rfl rfl fun a hk => ?_
      show wpList _ _ _ [] _ _
      refine wpList_nil ?_
      refine hK36 _ _ ?_
      refine wp_ret ?_
      obtain rfl := Option.some.inj H
      exact fin hk _ [(.bool true)] rfl ⟨rfl, trivial⟩ ⟨rfl, (hs.pick [] rfl).dnil⟩

noncomputable def laws_sameInts.s0 (l0 : List Int) (l1 : List Int) (u10 : Int) : Option ((Int) ⊕ Ex (Unit) (Bool)) :=
  (bif (decide (u10 < (l0.length : Int))) then (if 0 ≤ u10 ∧ u10 < (l0.length : Int) then (if 0 ≤ u10 ∧ u10 < (l1.length : Int) then (bif ((l0.getD u10.toNat 0) != (l1.getD u10.toNat 0)) then (some (.inr (.ret false))) else (some (.inl (w64 (u10 + 1))))) else none) else none) else (some (.inr (.out ()))))
noncomputable def laws_sameInts.f (l0 : List Int) (l1 : List Int) : Option (Bool) :=
  (bif ((l0.length : Int) != (l1.length : Int)) then (some false) else ((loopO (fun s => laws_sameInts.s0 l0 l1 s) 0).bind fun o => match o with | .out _ => (some true) | .ret r => (some r)))
set_option maxRecDepth 100000 in
set_option maxHeartbeats 0 in
theorem laws_sameInts_t (w0 : World) (A0_ : Option Addr) (p0_ : Nat) (l0 : List Int) (k0_ : Chunk) (v0_ : View (Lay.int .i64) A0_ p0_ l0 k0_) (w0_ : Has w0 k0_) (A1_ : Option Addr) (p1_ : Nat) (l1 : List Int) (k1_ : Chunk) (v1_ : View (Lay.int .i64) A1_ p1_ l1 k1_) (w1_ : Has w0 k1_) (r : Bool) (H : laws_sameInts.f l0 l1 = some r) :
    Calls Try.prog 35 #[.slice A0_ l0.length p0_, .slice A1_ l1.length p1_] w0 (Ret (fun v w => v = .bool r ∧ Sat [] w0 w [] [])) := by
  have hs : Sat [] w0 w0 [(1, k0_), (2, k1_)] [] := Sat.init w0 [(1, k0_), (2, k1_)] [] (by simp only [List.mem_cons, List.not_mem_nil, or_false]; rintro x (rfl | rfl) <;> assumption) (by simp) List.nodup_nil (by simp [blks])
  unfold laws_sameInts.f at H
  refine enter Try.func35 rfl Try.ntmps35 rfl fun a hk => ?_
  apply wp_seq_k; intro K1 hK1
  apply wp_region_lit
  refine sa _ rfl hk rfl rfl rfl fun a hk => ?_
  show wpList _ _ _ [] _ _
  refine wpList_nil ?_
  refine hK1 _ _ ?_
  apply wp_seq_k; intro K2 hK2
  apply wp_seq_k; intro K3 hK3
  apply wp_region_lit
  refine sm _ rfl hk rfl rfl rfl fun a hk => ?_
  refine sle rfl hk rfl rfl rfl un27 fun a hk => ?_
  refine sm _ rfl hk rfl rfl rfl fun a hk => ?_
  refine sle rfl hk rfl rfl rfl un27 fun a hk => ?_
  refine sv (.bool ((l0.length : Int) != (l1.length : Int))) hk rfl rfl rfl fun a hk => ?_
  show wpList _ _ _ [] _ _
  refine wpList_nil ?_
  refine hK3 _ _ ?_
  rcases cond_some H with ⟨c4, H⟩ | ⟨c4, H⟩
  · have hk := hk.lit 10 c4 rfl
    refine cnd_true hk rfl rfl ?_
    apply wp_seq_k; intro K5 hK5
    apply wp_region_lit
    refine sa _ rfl hk rfl rfl rfl fun a hk => ?_
    show wpList _ _ _ [] _ _
    refine wpList_nil ?_
    refine hK5 _ _ ?_
    refine wp_ret ?_
    obtain rfl := Option.some.inj H
    exact fin hk _ [(.bool false)] rfl ⟨rfl, trivial⟩ ⟨rfl, (hs.pick [] rfl).dnil⟩
  · have hk := hk.lit 10 c4 rfl
    refine cnd_false hk rfl rfl ?_
    refine wp_skip ?_
    refine hK2 _ _ ?_
    apply wp_seq_k; intro K6 hK6
    apply wp_seq_k; intro K7 hK7
    apply wp_region_lit
    refine sa _ rfl hk rfl rfl rfl fun a hk => ?_
    show wpList _ _ _ [] _ _
    refine wpList_nil ?_
    refine hK7 _ _ ?_
    obtain ⟨o11, h12, HL13⟩ := bind_some H
    clear H
    obtain ⟨R14, hR14⟩ : ∃ R : Act → World → Prop, R = fun a w => o11 = .out () ∧ Kn [] 26 a ∧ Sat [] w0 w [(1, k0_), (2, k1_)] [] := ⟨_, rfl⟩
    refine wp_cutq R14 ?_ ?_
    · refine wp_block ?_
      obtain ⟨fu16, h12⟩ := loopO_some h12
      obtain ⟨I15, hI15⟩ : ∃ I : Nat → Act → World → Prop, I = fun fu a w => ∃ (u10 : Int), loopN (fun s => laws_sameInts.s0 l0 l1 s) fu u10 = some o11 ∧ Kn [(0, (.slice A0_ l0.length p0_)), (1, (.slice A1_ l1.length p1_)), (5, (.int .i64 u10))] 26 a ∧ Sat [] w0 w [(1, k0_), (2, k1_)] [] := ⟨_, rfl⟩
      refine wp_loop_ghost I15 fu16 ?_ ?_
      · rw [hI15]
        exact ⟨0, h12, (hk.c 0 rfl (hk.c 1 rfl (hk.c 5 rfl hk.k))), (hs.pick [] rfl)⟩
      · clear h12 hk hs
        intro fu16 a w hI0
        rw [hI15] at hI0
        obtain ⟨u10, hi, hk, hs⟩ := hI0
        obtain ⟨x17, H, h18⟩ := loop_round hi
        try dsimp only at H
        unfold laws_sameInts.s0 at H
        apply wp_seq_k; intro K19 hK19
        apply wp_seq_k; intro K20 hK20
        apply wp_region_lit
        refine sm _ rfl hk rfl rfl rfl fun a hk => ?_
        refine sm _ rfl hk rfl rfl rfl fun a hk => ?_
        refine sle rfl hk rfl rfl rfl un27 fun a hk => ?_
        refine sv (.bool (decide (u10 < (l0.length : Int)))) hk rfl rfl rfl fun a hk => ?_
        show wpList _ _ _ [] _ _
        refine wpList_nil ?_
        refine hK20 _ _ ?_
        rcases cond_some H with ⟨c21, H⟩ | ⟨c21, H⟩
        · have hk := hk.lit 14 c21 rfl
          refine cnd_true hk rfl rfl ?_
          refine wp_skip ?_
          refine hK19 _ _ ?_
          apply wp_seq_k; intro K22 hK22
          refine wp_block ?_
          apply wp_seq_k; intro K23 hK23
          refine wp_region_tree (.q 0 (.q 1 (.q 2 (.q 3 (.q 4 (.alt 5 (.alt 6 (.alt 7 (.alt 8 .done .stop) .stop) .stop) .stop)))))) mo (by kernel_rfl) (hs.pick [] rfl) fun _ => ?_
          have hs := hs.drew
          refine tqst (.slice A0_ l0.length p0_) hk rfl rfl rfl rfl (fun w hs => sm _ rfl hk rfl rfl rfl fun a hk => qe hk) fun a hk => ?_
          refine tqst (.int .i64 u10) hk rfl rfl rfl rfl (fun w hs => sm _ rfl hk rfl rfl rfl fun a hk => qe hk) fun a hk => ?_
          rcases ite_some H with ⟨c25, H⟩ | ⟨_, H⟩
          rotate_left
          · cases H
          obtain ⟨b26, q27, hAc25⟩ := (v0_).some_ u10 c25.1 c25.2
          refine tqst (.pointer (some (padd A0_ (u10.toNat * 1)))) hk rfl rfl rfl rfl (fun w hs => si rfl hk rfl rfl rfl rfl un27 sz3 c25.1 c25.2 hAc25 fun a hk => qe hk) fun a hk => ?_
          obtain ⟨_, rfl, e28⟩ := (v0_).at_ 0 u10 c25.1 c25.2
          refine tqst (.int .i64 (l0.getD u10.toNat 0)) hk rfl rfl rfl rfl (fun w hs => sl (v := (.int .i64 (l0.getD u10.toNat 0))) rfl hk rfl rfl rfl ag3 ((e28 0 _ rfl).cell (hs.hasD (k := 1) rfl)) fun a hk => qe hk) fun a hk => ?_
          refine tqst (.slice A1_ l1.length p1_) hk rfl rfl rfl rfl (fun w hs => sm _ rfl hk rfl rfl rfl fun a hk => qe hk) fun a hk => ?_
          refine tsst hk rfl rfl (fun K_r24_5 hK_r24_5 w hF => ?_) wt_stop
          have hs := hs.f hF
          refine sm _ rfl hk rfl rfl rfl fun a hk => ?_
          refine se (hs.pick [] rfl) hk (hK_r24_5 _ _ ?_)
          refine tsst hk rfl rfl (fun K_r24_6 hK_r24_6 w hF => ?_) wt_stop
          have hs := hs.f hF
          rcases ite_some H with ⟨c29, H⟩ | ⟨_, H⟩
          rotate_left
          · cases H
          obtain ⟨b30, q31, hAc29⟩ := (v1_).some_ u10 c29.1 c29.2
          refine si rfl hk rfl rfl rfl rfl un27 sz3 c29.1 c29.2 hAc29 fun a hk => ?_
          refine se (hs.pick [] rfl) hk (hK_r24_6 _ _ ?_)
          refine tsst hk rfl rfl (fun K_r24_7 hK_r24_7 w hF => ?_) wt_stop
          have hs := hs.f hF
          obtain ⟨_, rfl, e32⟩ := (v1_).at_ 0 u10 c29.1 c29.2
          refine sl (v := (.int .i64 (l1.getD u10.toNat 0))) rfl hk rfl rfl rfl ag3 ((e32 0 _ rfl).cell (hs.hasD (k := 2) rfl)) fun a hk => ?_
          refine se (hs.pick [] rfl) hk (hK_r24_7 _ _ ?_)
          refine tsst hk rfl rfl (fun K_r24_8 hK_r24_8 w hF => ?_) wt_stop
          have hs := hs.f hF
          refine sv (.bool ((l0.getD u10.toNat 0) != (l1.getD u10.toNat 0))) hk rfl rfl rfl fun a hk => ?_
          refine se (hs.pick [] rfl) hk (hK_r24_8 _ _ ?_)
          refine wtl_nil fun w hF _ => ?_
          have hs := hs.f hF
          refine hK23 _ _ ?_
          rcases cond_some H with ⟨c33, H⟩ | ⟨c33, H⟩
          · have hk := hk.lit 25 c33 rfl
            refine cnd_true hk rfl rfl ?_
            apply wp_seq_k; intro K34 hK34
            apply wp_region_lit
            refine sa _ rfl hk rfl rfl rfl fun a hk => ?_
            show wpList _ _ _ [] _ _
            refine wpList_nil ?_
            refine hK34 _ _ ?_
            refine wp_ret ?_
            obtain rfl := Option.some.inj H
            have ho11 := h18
            try dsimp only at ho11
            subst ho11
            have H := HL13
            try dsimp only at H
            obtain rfl := Option.some.inj H
            exact fin hk _ [(.bool false)] rfl ⟨rfl, trivial⟩ ⟨rfl, (hs.pick [] rfl).dnil⟩
          · have hk := hk.lit 25 c33 rfl
            refine cnd_false hk rfl rfl ?_
            refine wp_skip ?_
            refine hK22 _ _ ?_
            apply wp_region_lit
            refine sm _ rfl hk rfl rfl rfl fun a hk => ?_
            refine sv (.int .i64 (w64 (u10 + 1))) hk rfl rfl rfl fun a hk => ?_
            refine sa _ rfl hk rfl rfl rfl fun a hk => ?_
            show wpList _ _ _ [] _ _
            refine wpList_nil ?_
            obtain rfl := Option.some.inj H
            obtain ⟨m35, hmm35, h18⟩ := h18
            show ∃ n', n' < _ ∧ I15 n' _ _
            refine ⟨m35, hmm35, ?_⟩
            rw [hI15]
            exact ⟨(w64 (u10 + 1)), h18, (hk.c 0 rfl (hk.c 1 rfl (hk.c 5 rfl hk.k))), (hs.pick [] rfl)⟩
        · have hk := hk.lit 14 c21 rfl
          refine cnd_false hk rfl rfl ?_
          refine wp_exit ?_
          obtain rfl := Option.some.inj H
          show R14 _ _
          rw [hR14]
          exact ⟨h18.symm, hk.k, (hs.pick [] rfl)⟩
    · intro a w hR0
      rw [hR14] at hR0
      obtain ⟨rfl, hk, hs⟩ := hR0
      have H := HL13
      try dsimp only at H
      refine hK6 _ _ ?_
      apply wp_seq_k; intro K36 hK36
      apply wp_region_lit
      refine sa _ rfl hk rfl rfl rfl fun a hk => ?_
      show wpList _ _ _ [] _ _
      refine wpList_nil ?_
      refine hK36 _ _ ?_
      refine wp_ret ?_
      obtain rfl := Option.some.inj H
      exact fin hk _ [(.bool true)] rfl ⟨rfl, trivial⟩ ⟨rfl, (hs.pick [] rfl).dnil⟩

noncomputable def laws_FnScan.s0 (y14 : (List S_Entry)) (y21 : Int) (y24 : Int) (u50 : List Int) (u49 : Int) : Option (((List Int) × Int) ⊕ Ex ((List Int)) (Bool)) :=
  (bif (decide (u49 < (y14.length : Int))) then (((if 0 ≤ u49 ∧ u49 < (y14.length : Int) then (bif (decide (((y14.getD u49.toNat z_Entry).Key) ≥ (w64 (1 + y21)))) then (some (decide ((u50.length : Int) < (w64 (2 * (w64 (1 + y24))))))) else (some false)) else none) : Option (Bool)).bind fun u74 => (((bif u74 then (if 0 ≤ u49 ∧ u49 < (y14.length : Int) then (if 0 ≤ u49 ∧ u49 < (y14.length : Int) then (if u50.length + ([(y14.getD u49.toNat z_Entry).Key, (y14.getD u49.toNat z_Entry).Value]).length ≤ 1073741824 then (some (u50 ++ ([(y14.getD u49.toNat z_Entry).Key, (y14.getD u49.toNat z_Entry).Value]))) else none) else none) else none) else (some u50)) : Option ((List Int))).bind fun u85 => (some (.inl (u85, (w64 (u49 + 1))))))) else (some (.inr (.out u50))))
noncomputable def laws_FnScan.s1 (y24 : Int) (u120 : List Int) : Option (((List Int)) ⊕ Ex ((List Int)) (Bool)) :=
  (bif (decide ((u120.length : Int) < (w64 (2 * (w64 (1 + y24)))))) then (if u120.length + ([0]).length ≤ 1073741824 then (some (.inl (u120 ++ ([0])))) else none) else (some (.inr (.out u120))))
noncomputable def laws_FnScan.f (l0 : List Int) (l1 : List Int) : Option (Bool) :=
  (((bif (decide ((l0.length : Int) > 1048576)) then (some true) else (some (decide ((l1.length : Int) > 1048576)))) : Option (Bool)).bind fun u5 => (bif u5 then (some true) else ((spec_EntriesOf.f l0).bind fun y14 => ((laws_at.f l1 0 15).bind fun y21 => ((laws_at.f l1 1 4).bind fun y24 => ((impl_MapDo.f y14 (⟨6, (w64 (1 + y21)), (w64 (1 + y24))⟩ : S_Op)).bind fun y27 => ((loopO (fun s => laws_FnScan.s0 y14 y21 y24 s.1 s.2) (([] : List Int), 0)).bind fun o => match o with | .out u55 => ((loopO (fun s => laws_FnScan.s1 y24 s) u55).bind fun o => match o with | .out u125 => (((bif (y27.2.2 == 0) then ((laws_sameEntries.f y27.1 y14).bind fun y158 => (bif y158 then ((laws_sameInts.f y27.2.1 u125).bind fun y161 => (some y161)) else (some false))) else (some false)) : Option (Bool)).bind fun u152 => (some u152)) | .ret r => (some r)) | .ret r => (some r))))))))
set_option maxRecDepth 100000 in
set_option maxHeartbeats 0 in
theorem laws_FnScan_t (w0 : World) (A0_ : Option Addr) (p0_ : Nat) (l0 : List Int) (k0_ : Chunk) (v0_ : View (Lay.int .u8) A0_ p0_ l0 k0_) (w0_ : Has w0 k0_) (A1_ : Option Addr) (p1_ : Nat) (l1 : List Int) (k1_ : Chunk) (v1_ : View (Lay.int .u8) A1_ p1_ l1 k1_) (w1_ : Has w0 k1_) (r : Bool) (H : laws_FnScan.f l0 l1 = some r) :
    Calls Try.prog 6 #[.slice A0_ l0.length p0_, .slice A1_ l1.length p1_] w0 (Ret (fun v w => v = .bool r ∧ Sat [] w0 w [] [])) := by
  have hs : Sat [] w0 w0 [(1, k0_), (2, k1_)] [] := Sat.init w0 [(1, k0_), (2, k1_)] [] (by simp only [List.mem_cons, List.not_mem_nil, or_false]; rintro x (rfl | rfl) <;> assumption) (by simp) List.nodup_nil (by simp [blks])
  unfold laws_FnScan.f at H
  refine enter Try.func6 rfl Try.ntmps6 rfl fun a hk => ?_
  apply wp_seq_k; intro K1 hK1
  apply wp_region_lit
  refine sa _ rfl hk rfl rfl rfl fun a hk => ?_
  show wpList _ _ _ [] _ _
  refine wpList_nil ?_
  refine hK1 _ _ ?_
  apply wp_seq_k; intro K2 hK2
  apply wp_seq_k; intro K3 hK3
  obtain ⟨o6, h7, HL8⟩ := bind_some H
  clear H
  obtain ⟨R9, hR9⟩ : ∃ R : Act → World → Prop, R = fun a w => ∃ (u5 : Bool), u5 = o6 ∧ Kn [(0, (.slice A0_ l0.length p0_)), (1, (.slice A1_ l1.length p1_)), (20, (.bool u5))] 92 a ∧ Sat [] w0 w [(1, k0_), (2, k1_)] [] := ⟨_, rfl⟩
  refine wp_cutq R9 ?_ ?_
  · have H := h7
    apply wp_region_lit
    refine sm _ rfl hk rfl rfl rfl fun a hk => ?_
    refine sle rfl hk rfl rfl rfl un55 fun a hk => ?_
    refine sv (.bool (decide ((l0.length : Int) > 1048576))) hk rfl rfl rfl fun a hk => ?_
    refine sm _ rfl hk rfl rfl rfl fun a hk => ?_
    rcases cond_some H with ⟨c10, H⟩ | ⟨c10, H⟩
    · have hk := hk.lit 16 c10 rfl
      refine sk hk rfl rfl rfl fun a hk => ?_
      refine sk hk rfl rfl rfl fun a hk => ?_
      refine sk hk rfl rfl rfl fun a hk => ?_
      refine sv (.bool true) hk rfl rfl rfl fun a hk => ?_
      show wpList _ _ _ [] _ _
      refine wpList_nil ?_
      obtain rfl := Option.some.inj H
      show R9 _ _
      rw [hR9]
      exact ⟨true, rfl, (hk.c 0 rfl (hk.c 1 rfl (hk.c 20 rfl hk.k))), (hs.pick [] rfl)⟩
    · have hk := hk.lit 16 c10 rfl
      refine sm _ rfl hk rfl rfl rfl fun a hk => ?_
      refine sle rfl hk rfl rfl rfl un55 fun a hk => ?_
      refine sv (.bool (decide ((l1.length : Int) > 1048576))) hk rfl rfl rfl fun a hk => ?_
      refine sv (.bool (decide ((l1.length : Int) > 1048576))) hk rfl rfl rfl fun a hk => ?_
      show wpList _ _ _ [] _ _
      refine wpList_nil ?_
      obtain rfl := Option.some.inj H
      show R9 _ _
      rw [hR9]
      exact ⟨(decide ((l1.length : Int) > 1048576)), rfl, (hk.c 0 rfl (hk.c 1 rfl (hk.c 20 rfl hk.k))), (hs.pick [] rfl)⟩
  · intro a w hR0
    rw [hR9] at hR0
    obtain ⟨u5, rfl, hk, hs⟩ := hR0
    have H := HL8
    try dsimp only at H
    refine hK3 _ _ ?_
    rcases cond_some H with ⟨c11, H⟩ | ⟨c11, H⟩
    · have hk := hk.lit 20 c11 rfl
      refine cnd_true hk rfl rfl ?_
      apply wp_seq_k; intro K12 hK12
      apply wp_region_lit
      refine sa _ rfl hk rfl rfl rfl fun a hk => ?_
      show wpList _ _ _ [] _ _
      refine wpList_nil ?_
      refine hK12 _ _ ?_
      refine wp_ret ?_
      obtain rfl := Option.some.inj H
      exact fin hk _ [(.bool true)] rfl ⟨rfl, trivial⟩ ⟨rfl, (hs.pick [] rfl).dnil⟩
    · have hk := hk.lit 20 c11 rfl
      refine cnd_false hk rfl rfl ?_
      refine wp_skip ?_
      refine hK2 _ _ ?_
      apply wp_seq_k; intro K13 hK13
      apply wp_region_lit
      refine sm _ rfl hk rfl rfl rfl fun a hk => ?_
      obtain ⟨y14, h15, H⟩ := bind_some H
      refine sc rfl en31 hk rfl rfl rfl (spec_EntriesOf_t _ A0_ p0_ l0 _ v0_ (hs.hasD (k := 1) rfl) _ h15) ?_
      rintro _ w ⟨A17, p18, k16, rfl, v19, hG⟩ a hk
      have hs := hs.call0k hG [4] rfl
      refine sa _ rfl hk rfl rfl rfl fun a hk => ?_
      show wpList _ _ _ [] _ _
      refine wpList_nil ?_
      refine hK13 _ _ ?_
      apply wp_seq_k; intro K20 hK20
      apply wp_region_lit
      refine sm _ rfl hk rfl rfl rfl fun a hk => ?_
      obtain ⟨y21, h22, H⟩ := bind_some H
      refine sc rfl en32 hk rfl rfl rfl (laws_at_t _ A1_ p1_ l1 _ v1_ (hs.hasD (k := 2) rfl) 0 15 _ h22) ?_
      rintro _ w ⟨rfl, hG⟩ a hk
      have hs := hs.call0 hG
      refine sv (.int .i64 (w64 (1 + y21))) hk rfl rfl rfl fun a hk => ?_
      refine sa _ rfl hk rfl rfl rfl fun a hk => ?_
      show wpList _ _ _ [] _ _
      refine wpList_nil ?_
      refine hK20 _ _ ?_
      apply wp_seq_k; intro K23 hK23
      apply wp_region_lit
      refine sm _ rfl hk rfl rfl rfl fun a hk => ?_
      obtain ⟨y24, h25, H⟩ := bind_some H
      refine sc rfl en32 hk rfl rfl rfl (laws_at_t _ A1_ p1_ l1 _ v1_ (hs.hasD (k := 2) rfl) 1 4 _ h25) ?_
      rintro _ w ⟨rfl, hG⟩ a hk
      have hs := hs.call0 hG
      refine sv (.int .i64 (w64 (1 + y24))) hk rfl rfl rfl fun a hk => ?_
      refine sa _ rfl hk rfl rfl rfl fun a hk => ?_
      show wpList _ _ _ [] _ _
      refine wpList_nil ?_
      refine hK23 _ _ ?_
      apply wp_seq_k; intro K26 hK26
      apply wp_region_lit
      refine sm _ rfl hk rfl rfl rfl fun a hk => ?_
      refine sm _ rfl hk rfl rfl rfl fun a hk => ?_
      refine sm _ rfl hk rfl rfl rfl fun a hk => ?_
      refine sbd (pv := [(0, (.int .i64 6)), (1, (.int .i64 (w64 (1 + y21)))), (2, (.int .i64 (w64 (1 + y24))))]) rfl hk rfl rfl rfl (bd31_13 6 (w64 (1 + y21)) (w64 (1 + y24))) fun a hk => ?_
      obtain ⟨y27, h28, H⟩ := bind_some H
      refine sc rfl en15 hk rfl rfl rfl (impl_MapDo_t _ A17 p18 y14 _ v19 (Has.app (hs.hasD (k := 1) rfl) (hs.hasG (k := 4) rfl)) (⟨6, (w64 (1 + y21)), (w64 (1 + y24))⟩ : S_Op) _ h28) ?_
      rintro _ w ⟨A29, p30, k31, A33, p34, k35, rfl, o32, o36, hG⟩ a hk
      have hs := hs.call0k hG [5, 6] rfl
      refine sm _ rfl hk rfl rfl rfl fun a hk => ?_
      refine sv (.slice A29 y27.1.length p30) hk rfl rfl rfl fun a hk => ?_
      refine sv (.slice A33 y27.2.1.length p34) hk rfl rfl rfl fun a hk => ?_
      refine sv (.int .i64 y27.2.2) hk rfl rfl rfl fun a hk => ?_
      refine sa _ rfl hk rfl rfl rfl fun a hk => ?_
      refine sa _ rfl hk rfl rfl rfl fun a hk => ?_
      refine sa _ rfl hk rfl rfl rfl fun a hk => ?_
      show wpList _ _ _ [] _ _
      refine wpList_nil ?_
      refine hK26 _ _ ?_
      apply wp_seq_k; intro K37 hK37
      apply wp_region_lit
      refine sbs0 7 (Lay.int .i64) hs rfl hk rfl rfl un27 sz3 fun b38 k39 w a hk o40 hs => ?_
      refine sa _ rfl hk rfl rfl rfl fun a hk => ?_
      show wpList _ _ _ [] _ _
      refine wpList_nil ?_
      refine hK37 _ _ ?_
      apply wp_seq_k; intro K41 hK41
      apply wp_seq_k; intro K42 hK42
      apply wp_region_lit
      refine sa _ rfl hk rfl rfl rfl fun a hk => ?_
      show wpList _ _ _ [] _ _
      refine wpList_nil ?_
      refine hK42 _ _ ?_
      obtain ⟨o60, h61, HL62⟩ := bind_some H
      clear H
      obtain ⟨R63, hR63⟩ : ∃ R : Act → World → Prop, R = fun a w => ∃ (u55 : List Int) (A58 : Option Addr) (p59 : Nat) (k56 : Chunk), o60 = .out u55 ∧ Kn [(5, (.slice A17 y14.length p18)), (7, (.int .i64 (w64 (1 + y24)))), (8, (.slice A29 y27.1.length p30)), (9, (.slice A33 y27.2.1.length p34)), (10, (.int .i64 y27.2.2)), (11, (.slice A58 u55.length p59))] 92 a ∧ Sat [] w0 w [(1, k0_), (2, k1_)] [(4, k16), (5, k31), (6, k35), (7, k56)] ∧ Own (Lay.int .i64) 3 A58 p59 u55 k56 := ⟨_, rfl⟩
      refine wp_cutq R63 ?_ ?_
      · refine wp_block ?_
        obtain ⟨fu65, h61⟩ := loopO_some h61
        obtain ⟨I64, hI64⟩ : ∃ I : Nat → Act → World → Prop, I = fun fu a w => ∃ (u50 : List Int) (u49 : Int) (A53 : Option Addr) (p54 : Nat) (k51 : Chunk), loopN (fun s => laws_FnScan.s0 y14 y21 y24 s.1 s.2) fu (u50, u49) = some o60 ∧ Kn [(5, (.slice A17 y14.length p18)), (6, (.int .i64 (w64 (1 + y21)))), (7, (.int .i64 (w64 (1 + y24)))), (8, (.slice A29 y27.1.length p30)), (9, (.slice A33 y27.2.1.length p34)), (10, (.int .i64 y27.2.2)), (11, (.slice A53 u50.length p54)), (12, (.int .i64 u49))] 92 a ∧ Sat [] w0 w [(1, k0_), (2, k1_)] [(4, k16), (5, k31), (6, k35), (7, k51)] ∧ Own (Lay.int .i64) 3 A53 p54 u50 k51 := ⟨_, rfl⟩
        refine wp_loop_ghost I64 fu65 ?_ ?_
        · rw [hI64]
          exact ⟨([] : List Int), 0, (some ⟨b38, 0, none⟩), 0, _, h61, (hk.c 5 rfl (hk.c 6 rfl (hk.c 7 rfl (hk.c 8 rfl (hk.c 9 rfl (hk.c 10 rfl (hk.c 11 rfl (hk.c 12 rfl hk.k)))))))), (hs.pick [(4, 4), (5, 5), (6, 6), (7, 7)] rfl), o40⟩
        · clear h61 hk hs
          intro fu65 a w hI0
          rw [hI64] at hI0
          obtain ⟨u50, u49, A53, p54, k51, hi, hk, hs, o52⟩ := hI0
          obtain ⟨x66, H, h67⟩ := loop_round hi
          try dsimp only at H
          unfold laws_FnScan.s0 at H
          apply wp_seq_k; intro K68 hK68
          apply wp_seq_k; intro K69 hK69
          apply wp_region_lit
          refine sm _ rfl hk rfl rfl rfl fun a hk => ?_
          refine sm _ rfl hk rfl rfl rfl fun a hk => ?_
          refine sle rfl hk rfl rfl rfl un26 fun a hk => ?_
          refine sv (.bool (decide (u49 < (y14.length : Int)))) hk rfl rfl rfl fun a hk => ?_
          show wpList _ _ _ [] _ _
          refine wpList_nil ?_
          refine hK69 _ _ ?_
          rcases cond_some H with ⟨c70, H⟩ | ⟨c70, H⟩
          · have hk := hk.lit 42 c70 rfl
            refine cnd_true hk rfl rfl ?_
            refine wp_skip ?_
            refine hK68 _ _ ?_
            apply wp_seq_k; intro K71 hK71
            refine wp_block ?_
            apply wp_seq_k; intro K72 hK72
            obtain ⟨o75, h76, HL77⟩ := bind_some H
            clear H
            obtain ⟨R78, hR78⟩ : ∃ R : Act → World → Prop, R = fun a w => ∃ (u74 : Bool), u74 = o75 ∧ Kn [(5, (.slice A17 y14.length p18)), (6, (.int .i64 (w64 (1 + y21)))), (7, (.int .i64 (w64 (1 + y24)))), (8, (.slice A29 y27.1.length p30)), (9, (.slice A33 y27.2.1.length p34)), (10, (.int .i64 y27.2.2)), (11, (.slice A53 u50.length p54)), (12, (.int .i64 u49)), (58, (.bool u74))] 92 a ∧ Sat [] w0 w [(1, k0_), (2, k1_)] [(4, k16), (5, k31), (6, k35), (7, k51)] := ⟨_, rfl⟩
            refine wp_cutq R78 ?_ ?_
            · have H := h76
              apply wp_region_lit
              refine sm _ rfl hk rfl rfl rfl fun a hk => ?_
              refine sm _ rfl hk rfl rfl rfl fun a hk => ?_
              rcases ite_some H with ⟨c79, H⟩ | ⟨_, H⟩
              rotate_left
              · cases H
              obtain ⟨b80, q81, hAc79⟩ := (v19).some_ u49 c79.1 c79.2
              refine si rfl hk rfl rfl rfl rfl un26 sz62 c79.1 c79.2 hAc79 fun a hk => ?_
              refine sf (padd A17 (u49.toNat * 2 + 0)) rfl hk rfl rfl rfl fd62_0 (padd_add _ _ _) fun a hk => ?_
              obtain ⟨_, rfl, e82⟩ := (v19).at_ z_Entry u49 c79.1 c79.2
              refine sl (v := (.int .i64 ((y14.getD u49.toNat z_Entry).Key))) rfl hk rfl rfl rfl ag3 ((e82 0 _ rfl).cell (Has.app (hs.hasD (k := 1) rfl) (hs.hasG (k := 4) rfl))) fun a hk => ?_
              refine sm _ rfl hk rfl rfl rfl fun a hk => ?_
              refine sv (.bool (decide (((y14.getD u49.toNat z_Entry).Key) ≥ (w64 (1 + y21))))) hk rfl rfl rfl fun a hk => ?_
              refine sm _ rfl hk rfl rfl rfl fun a hk => ?_
              rcases cond_some H with ⟨c83, H⟩ | ⟨c83, H⟩
              · have hk := hk.lit 52 c83 rfl
                refine sm _ rfl hk rfl rfl rfl fun a hk => ?_
                refine sle rfl hk rfl rfl rfl un27 fun a hk => ?_
                refine sm _ rfl hk rfl rfl rfl fun a hk => ?_
                refine sv (.int .i64 (w64 (2 * (w64 (1 + y24))))) hk rfl rfl rfl fun a hk => ?_
                refine sv (.bool (decide ((u50.length : Int) < (w64 (2 * (w64 (1 + y24))))))) hk rfl rfl rfl fun a hk => ?_
                refine sv (.bool (decide ((u50.length : Int) < (w64 (2 * (w64 (1 + y24))))))) hk rfl rfl rfl fun a hk => ?_
                show wpList _ _ _ [] _ _
                refine wpList_nil ?_
                obtain rfl := Option.some.inj H
                show R78 _ _
                rw [hR78]
                exact ⟨(decide ((u50.length : Int) < (w64 (2 * (w64 (1 + y24)))))), rfl, (hk.c 5 rfl (hk.c 6 rfl (hk.c 7 rfl (hk.c 8 rfl (hk.c 9 rfl (hk.c 10 rfl (hk.c 11 rfl (hk.c 12 rfl (hk.c 58 rfl hk.k))))))))), (hs.pick [(4, 4), (5, 5), (6, 6), (7, 7)] rfl)⟩
              · have hk := hk.lit 52 c83 rfl
                refine sk hk rfl rfl rfl fun a hk => ?_
                refine sk hk rfl rfl rfl fun a hk => ?_
                refine sk hk rfl rfl rfl fun a hk => ?_
                refine sk hk rfl rfl rfl fun a hk => ?_
                refine sk hk rfl rfl rfl fun a hk => ?_
                refine sv (.bool false) hk rfl rfl rfl fun a hk => ?_
                show wpList _ _ _ [] _ _
                refine wpList_nil ?_
                obtain rfl := Option.some.inj H
                show R78 _ _
                rw [hR78]
                exact ⟨false, rfl, (hk.c 5 rfl (hk.c 6 rfl (hk.c 7 rfl (hk.c 8 rfl (hk.c 9 rfl (hk.c 10 rfl (hk.c 11 rfl (hk.c 12 rfl (hk.c 58 rfl hk.k))))))))), (hs.pick [(4, 4), (5, 5), (6, 6), (7, 7)] rfl)⟩
            · intro a w hR0
              rw [hR78] at hR0
              obtain ⟨u74, rfl, hk, hs⟩ := hR0
              have H := HL77
              try dsimp only at H
              refine hK72 _ _ ?_
              obtain ⟨o90, h91, HL92⟩ := bind_some H
              clear H
              obtain ⟨R93, hR93⟩ : ∃ R : Act → World → Prop, R = fun a w => ∃ (u85 : List Int) (A88 : Option Addr) (p89 : Nat) (k86 : Chunk), u85 = o90 ∧ Kn [(5, (.slice A17 y14.length p18)), (6, (.int .i64 (w64 (1 + y21)))), (7, (.int .i64 (w64 (1 + y24)))), (8, (.slice A29 y27.1.length p30)), (9, (.slice A33 y27.2.1.length p34)), (10, (.int .i64 y27.2.2)), (11, (.slice A88 u85.length p89)), (12, (.int .i64 u49))] 92 a ∧ Sat [] w0 w [(1, k0_), (2, k1_)] [(4, k16), (5, k31), (6, k35), (7, k86)] ∧ Own (Lay.int .i64) 3 A88 p89 u85 k86 := ⟨_, rfl⟩
              refine wp_cutq R93 ?_ ?_
              · have H := h91
                rcases cond_some H with ⟨c94, H⟩ | ⟨c94, H⟩
                · have hk := hk.lit 58 c94 rfl
                  refine cnd_true hk rfl rfl ?_
                  refine wp_region_tree (.q 0 (.q 1 (.q 2 (.q 3 (.q 4 (.q 5 (.q 6 (.alt 7 (.alt 8 (.alt 9 (.alt 10 (.alt 11 (.alt 12 (.last 13) .stop) .stop) .stop) .stop) .stop) .stop)))))))) mo (by kernel_rfl) (hs.pick [(4, 4), (5, 5), (6, 6)] rfl) fun _ => ?_
                  have hs := hs.drew
                  refine tqst (.slice A53 u50.length p54) hk rfl rfl rfl rfl (fun w hs => sm _ rfl hk rfl rfl rfl fun a hk => qe hk) fun a hk => ?_
                  refine tqst (.slice A17 y14.length p18) hk rfl rfl rfl rfl (fun w hs => sm _ rfl hk rfl rfl rfl fun a hk => qe hk) fun a hk => ?_
                  refine tqst (.int .i64 u49) hk rfl rfl rfl rfl (fun w hs => sm _ rfl hk rfl rfl rfl fun a hk => qe hk) fun a hk => ?_
                  rcases ite_some H with ⟨c96, H⟩ | ⟨_, H⟩
                  rotate_left
                  · cases H
                  obtain ⟨b97, q98, hAc96⟩ := (v19).some_ u49 c96.1 c96.2
                  refine tqst (.pointer (some (padd A17 (u49.toNat * 2)))) hk rfl rfl rfl rfl (fun w hs => si rfl hk rfl rfl rfl rfl un26 sz62 c96.1 c96.2 hAc96 fun a hk => qe hk) fun a hk => ?_
                  refine tqst (.pointer (some (padd A17 (u49.toNat * 2)))) hk rfl rfl rfl rfl (fun w hs => sf (padd A17 (u49.toNat * 2 + 0)) rfl hk rfl rfl rfl fd62_0 (padd_add _ _ _) fun a hk => qe hk) fun a hk => ?_
                  obtain ⟨_, rfl, e99⟩ := (v19).at_ z_Entry u49 c96.1 c96.2
                  refine tqst (.int .i64 ((y14.getD u49.toNat z_Entry).Key)) hk rfl rfl rfl rfl (fun w hs => sl (v := (.int .i64 ((y14.getD u49.toNat z_Entry).Key))) rfl hk rfl rfl rfl ag3 ((e99 0 _ rfl).cell (Has.app (hs.hasD (k := 1) rfl) (hs.hasG (k := 4) rfl))) fun a hk => qe hk) fun a hk => ?_
                  refine tqst (.slice A17 y14.length p18) hk rfl rfl rfl rfl (fun w hs => sm _ rfl hk rfl rfl rfl fun a hk => qe hk) fun a hk => ?_
                  refine tsst hk rfl rfl (fun K_r95_7 hK_r95_7 w hF => ?_) wt_stop
                  have hs := hs.f hF
                  refine sm _ rfl hk rfl rfl rfl fun a hk => ?_
                  refine se (hs.pick [(4, 4), (5, 5), (6, 6)] rfl) hk (hK_r95_7 _ _ ?_)
                  refine tsst hk rfl rfl (fun K_r95_8 hK_r95_8 w hF => ?_) wt_stop
                  have hs := hs.f hF
                  rcases ite_some H with ⟨c100, H⟩ | ⟨_, H⟩
                  rotate_left
                  · cases H
                  obtain ⟨b101, q102, hAc100⟩ := (v19).some_ u49 c100.1 c100.2
                  refine si rfl hk rfl rfl rfl rfl un26 sz62 c100.1 c100.2 hAc100 fun a hk => ?_
                  refine se (hs.pick [(4, 4), (5, 5), (6, 6)] rfl) hk (hK_r95_8 _ _ ?_)
                  refine tsst hk rfl rfl (fun K_r95_9 hK_r95_9 w hF => ?_) wt_stop
                  have hs := hs.f hF
                  refine sf (padd A17 (u49.toNat * 2 + 1)) rfl hk rfl rfl rfl fd62_1 (padd_add _ _ _) fun a hk => ?_
                  refine se (hs.pick [(4, 4), (5, 5), (6, 6)] rfl) hk (hK_r95_9 _ _ ?_)
                  refine tsst hk rfl rfl (fun K_r95_10 hK_r95_10 w hF => ?_) wt_stop
                  have hs := hs.f hF
                  obtain ⟨_, rfl, e103⟩ := (v19).at_ z_Entry u49 c100.1 c100.2
                  refine sl (v := (.int .i64 ((y14.getD u49.toNat z_Entry).Value))) rfl hk rfl rfl rfl ag3 ((e103 1 _ rfl).cell (Has.app (hs.hasD (k := 1) rfl) (hs.hasG (k := 4) rfl))) fun a hk => ?_
                  refine se (hs.pick [(4, 4), (5, 5), (6, 6)] rfl) hk (hK_r95_10 _ _ ?_)
                  refine tsst hk rfl rfl (fun K_r95_11 hK_r95_11 w hF => ?_) wt_stop
                  have hs := hs.f hF
                  refine sbs (L := (Lay.int .i64)) (pv := [(0, (.int .i64 ((y14.getD u49.toNat z_Entry).Key))), (1, (.int .i64 ((y14.getD u49.toNat z_Entry).Value)))]) (xs := [(y14.getD u49.toNat z_Entry).Key, (y14.getD u49.toNat z_Entry).Value]) (ess := [[.int .i64 ((y14.getD u49.toNat z_Entry).Key)], [.int .i64 ((y14.getD u49.toNat z_Entry).Value)]]) 12 hs rfl hk rfl rfl rfl un27 (bs3_0 ((y14.getD u49.toNat z_Entry).Key) ((y14.getD u49.toNat z_Entry).Value)) (AllOwn.cons0 ⟨rfl, rfl⟩ (AllOwn.cons0 ⟨rfl, rfl⟩ AllOwn.nil)) rfl rfl rfl fun b104 k105 w a hk o106 hs => ?_
                  refine se (hs.pick [(4, 4), (5, 5), (6, 6)] rfl) hk (hK_r95_11 _ _ ?_)
                  refine tsst hk rfl rfl (fun K_r95_12 hK_r95_12 w hF => ?_) wt_stop
                  have hs := hs.f hF
                  rcases ite_some H with ⟨c107, H⟩ | ⟨_, H⟩
                  rotate_left
                  · cases H
                  refine sap 7 (xs := u50) (ys := [(y14.getD u49.toNat z_Entry).Key, (y14.getD u49.toNat z_Entry).Value]) (flat_flat : ((Lay.int .i64)).Flat) hs rfl o52 o106.view (hs.hasG (k := 12) rfl) rfl hk rfl rfl rfl rfl rfl rfl un27 mk3 rfl rfl rfl c107 fun A108 p109 k110 w a hk o111 hs => ?_
                  refine se (hs.pick [(4, 4), (5, 5), (6, 6)] rfl) hk (hK_r95_12 _ _ ?_)
                  refine tlst hk rfl rfl fun K_r95_13 hK_r95_13 w hF => ?_
                  have hs := hs.f hF
                  refine sa _ rfl hk rfl rfl rfl fun a hk => ?_
                  refine se trivial hk (hK_r95_13 _ _ fun w hF => ?_)
                  have hs := hs.f hF
                  obtain rfl := Option.some.inj H
                  show R93 _ _
                  rw [hR93]
                  exact ⟨(u50 ++ ([(y14.getD u49.toNat z_Entry).Key, (y14.getD u49.toNat z_Entry).Value])), A108, p109, _, rfl, (hk.c 5 rfl (hk.c 6 rfl (hk.c 7 rfl (hk.c 8 rfl (hk.c 9 rfl (hk.c 10 rfl (hk.c 11 rfl (hk.c 12 rfl hk.k)))))))), (hs.pick [(4, 4), (5, 5), (6, 6), (7, 7)] rfl), o111⟩
                · have hk := hk.lit 58 c94 rfl
                  refine cnd_false hk rfl rfl ?_
                  refine wp_skip ?_
                  obtain rfl := Option.some.inj H
                  show R93 _ _
                  rw [hR93]
                  exact ⟨u50, A53, p54, _, rfl, (hk.c 5 rfl (hk.c 6 rfl (hk.c 7 rfl (hk.c 8 rfl (hk.c 9 rfl (hk.c 10 rfl (hk.c 11 rfl (hk.c 12 rfl hk.k)))))))), (hs.pick [(4, 4), (5, 5), (6, 6), (7, 7)] rfl), o52⟩
              · intro a w hR0
                rw [hR93] at hR0
                obtain ⟨u85, A88, p89, k86, rfl, hk, hs, o87⟩ := hR0
                have H := HL92
                try dsimp only at H
                refine hK71 _ _ ?_
                apply wp_region_lit
                refine sm _ rfl hk rfl rfl rfl fun a hk => ?_
                refine sv (.int .i64 (w64 (u49 + 1))) hk rfl rfl rfl fun a hk => ?_
                refine sa _ rfl hk rfl rfl rfl fun a hk => ?_
                show wpList _ _ _ [] _ _
                refine wpList_nil ?_
                obtain rfl := Option.some.inj H
                obtain ⟨m112, hmm112, h67⟩ := h67
                show ∃ n', n' < _ ∧ I64 n' _ _
                refine ⟨m112, hmm112, ?_⟩
                rw [hI64]
                exact ⟨u85, (w64 (u49 + 1)), A88, p89, _, h67, (hk.c 5 rfl (hk.c 6 rfl (hk.c 7 rfl (hk.c 8 rfl (hk.c 9 rfl (hk.c 10 rfl (hk.c 11 rfl (hk.c 12 rfl hk.k)))))))), (hs.pick [(4, 4), (5, 5), (6, 6), (7, 7)] rfl), o87⟩
          · have hk := hk.lit 42 c70 rfl
            refine cnd_false hk rfl rfl ?_
            refine wp_exit ?_
            obtain rfl := Option.some.inj H
            show R63 _ _
            rw [hR63]
            exact ⟨u50, A53, p54, _, h67.symm, (hk.c 5 rfl (hk.c 7 rfl (hk.c 8 rfl (hk.c 9 rfl (hk.c 10 rfl (hk.c 11 rfl hk.k)))))), (hs.pick [(4, 4), (5, 5), (6, 6), (7, 7)] rfl), o52⟩
      · intro a w hR0
        rw [hR63] at hR0
        obtain ⟨u55, A58, p59, k56, rfl, hk, hs, o57⟩ := hR0
        have H := HL62
        try dsimp only at H
        refine hK41 _ _ ?_
        apply wp_seq_k; intro K113 hK113
        obtain ⟨o130, h131, HL132⟩ := bind_some H
        clear H
        obtain ⟨R133, hR133⟩ : ∃ R : Act → World → Prop, R = fun a w => ∃ (u125 : List Int) (A128 : Option Addr) (p129 : Nat) (k126 : Chunk), o130 = .out u125 ∧ Kn [(5, (.slice A17 y14.length p18)), (8, (.slice A29 y27.1.length p30)), (9, (.slice A33 y27.2.1.length p34)), (10, (.int .i64 y27.2.2)), (11, (.slice A128 u125.length p129))] 92 a ∧ Sat [] w0 w [(1, k0_), (2, k1_)] [(4, k16), (5, k31), (6, k35), (7, k126)] ∧ Own (Lay.int .i64) 3 A128 p129 u125 k126 := ⟨_, rfl⟩
        refine wp_cutq R133 ?_ ?_
        · refine wp_block ?_
          obtain ⟨fu135, h131⟩ := loopO_some h131
          obtain ⟨I134, hI134⟩ : ∃ I : Nat → Act → World → Prop, I = fun fu a w => ∃ (u120 : List Int) (A123 : Option Addr) (p124 : Nat) (k121 : Chunk), loopN (fun s => laws_FnScan.s1 y24 s) fu u120 = some o130 ∧ Kn [(5, (.slice A17 y14.length p18)), (7, (.int .i64 (w64 (1 + y24)))), (8, (.slice A29 y27.1.length p30)), (9, (.slice A33 y27.2.1.length p34)), (10, (.int .i64 y27.2.2)), (11, (.slice A123 u120.length p124))] 92 a ∧ Sat [] w0 w [(1, k0_), (2, k1_)] [(4, k16), (5, k31), (6, k35), (7, k121)] ∧ Own (Lay.int .i64) 3 A123 p124 u120 k121 := ⟨_, rfl⟩
          refine wp_loop_ghost I134 fu135 ?_ ?_
          · rw [hI134]
            exact ⟨u55, A58, p59, _, h131, (hk.c 5 rfl (hk.c 7 rfl (hk.c 8 rfl (hk.c 9 rfl (hk.c 10 rfl (hk.c 11 rfl hk.k)))))), (hs.pick [(4, 4), (5, 5), (6, 6), (7, 7)] rfl), o57⟩
          · clear h131 hk hs
            intro fu135 a w hI0
            rw [hI134] at hI0
            obtain ⟨u120, A123, p124, k121, hi, hk, hs, o122⟩ := hI0
            obtain ⟨x136, H, h137⟩ := loop_round hi
            try dsimp only at H
            unfold laws_FnScan.s1 at H
            apply wp_seq_k; intro K138 hK138
            apply wp_seq_k; intro K139 hK139
            apply wp_region_lit
            refine sm _ rfl hk rfl rfl rfl fun a hk => ?_
            refine sle rfl hk rfl rfl rfl un27 fun a hk => ?_
            refine sm _ rfl hk rfl rfl rfl fun a hk => ?_
            refine sv (.int .i64 (w64 (2 * (w64 (1 + y24))))) hk rfl rfl rfl fun a hk => ?_
            refine sv (.bool (decide ((u120.length : Int) < (w64 (2 * (w64 (1 + y24))))))) hk rfl rfl rfl fun a hk => ?_
            show wpList _ _ _ [] _ _
            refine wpList_nil ?_
            refine hK139 _ _ ?_
            rcases cond_some H with ⟨c140, H⟩ | ⟨c140, H⟩
            · have hk := hk.lit 76 c140 rfl
              refine cnd_true hk rfl rfl ?_
              refine wp_skip ?_
              refine hK138 _ _ ?_
              refine wp_block ?_
              apply wp_region_lit
              refine sm _ rfl hk rfl rfl rfl fun a hk => ?_
              refine sbs (L := (Lay.int .i64)) (pv := [(0, (.int .i64 0))]) (xs := [0]) (ess := [[.int .i64 0]]) 14 hs rfl hk rfl rfl rfl un27 (bs3_3 0) (AllOwn.cons0 ⟨rfl, rfl⟩ AllOwn.nil) rfl rfl rfl fun b141 k142 w a hk o143 hs => ?_
              rcases ite_some H with ⟨c144, H⟩ | ⟨_, H⟩
              rotate_left
              · cases H
              refine sap 7 (xs := u120) (ys := [0]) (flat_flat : ((Lay.int .i64)).Flat) hs rfl o122 o143.view (hs.hasG (k := 14) rfl) rfl hk rfl rfl rfl rfl rfl rfl un27 mk3 rfl rfl rfl c144 fun A145 p146 k147 w a hk o148 hs => ?_
              refine sa _ rfl hk rfl rfl rfl fun a hk => ?_
              show wpList _ _ _ [] _ _
              refine wpList_nil ?_
              obtain rfl := Option.some.inj H
              obtain ⟨m149, hmm149, h137⟩ := h137
              show ∃ n', n' < _ ∧ I134 n' _ _
              refine ⟨m149, hmm149, ?_⟩
              rw [hI134]
              exact ⟨(u120 ++ ([0])), A145, p146, _, h137, (hk.c 5 rfl (hk.c 7 rfl (hk.c 8 rfl (hk.c 9 rfl (hk.c 10 rfl (hk.c 11 rfl hk.k)))))), (hs.pick [(4, 4), (5, 5), (6, 6), (7, 7)] rfl), o148⟩
            · have hk := hk.lit 76 c140 rfl
              refine cnd_false hk rfl rfl ?_
              refine wp_exit ?_
              obtain rfl := Option.some.inj H
              show R133 _ _
              rw [hR133]
              exact ⟨u120, A123, p124, _, h137.symm, (hk.c 5 rfl (hk.c 8 rfl (hk.c 9 rfl (hk.c 10 rfl (hk.c 11 rfl hk.k))))), (hs.pick [(4, 4), (5, 5), (6, 6), (7, 7)] rfl), o122⟩
        · intro a w hR0
          rw [hR133] at hR0
          obtain ⟨u125, A128, p129, k126, rfl, hk, hs, o127⟩ := hR0
          have H := HL132
          try dsimp only at H
          refine hK113 _ _ ?_
          apply wp_seq_k; intro K150 hK150
          obtain ⟨o153, h154, HL155⟩ := bind_some H
          clear H
          obtain ⟨R156, hR156⟩ : ∃ R : Act → World → Prop, R = fun a w => ∃ (u152 : Bool), u152 = o153 ∧ Kn [(4, (.bool u152))] 92 a ∧ Sat [] w0 w [(1, k0_), (2, k1_)] [] := ⟨_, rfl⟩
          refine wp_cutq R156 ?_ ?_
          · have H := h154
            apply wp_region_lit
            refine sm _ rfl hk rfl rfl rfl fun a hk => ?_
            refine sv (.bool (y27.2.2 == 0)) hk rfl rfl rfl fun a hk => ?_
            refine sm _ rfl hk rfl rfl rfl fun a hk => ?_
            rcases cond_some H with ⟨c157, H⟩ | ⟨c157, H⟩
            · have hk := hk.lit 82 c157 rfl
              refine sm _ rfl hk rfl rfl rfl fun a hk => ?_
              refine sm _ rfl hk rfl rfl rfl fun a hk => ?_
              obtain ⟨y158, h159, H⟩ := bind_some H
              refine sc rfl en33 hk rfl rfl rfl (laws_sameEntries_t _ A29 p30 y27.1 _ o32.view (hs.hasG (k := 5) rfl) A17 p18 y14 _ v19 (Has.app (hs.hasD (k := 1) rfl) (hs.hasG (k := 4) rfl)) _ h159) ?_
              rintro _ w ⟨rfl, hG⟩ a hk
              have hs := hs.call0 hG
              refine sv (.bool y158) hk rfl rfl rfl fun a hk => ?_
              refine sm _ rfl hk rfl rfl rfl fun a hk => ?_
              rcases cond_some H with ⟨c160, H⟩ | ⟨c160, H⟩
              · have hk := hk.lit 87 c160 rfl
                refine sm _ rfl hk rfl rfl rfl fun a hk => ?_
                refine sm _ rfl hk rfl rfl rfl fun a hk => ?_
                obtain ⟨y161, h162, H⟩ := bind_some H
                refine sc rfl en35 hk rfl rfl rfl (laws_sameInts_t _ A33 p34 y27.2.1 _ o36.view (hs.hasG (k := 6) rfl) A128 p129 u125 _ o127.view (hs.hasG (k := 7) rfl) _ h162) ?_
                rintro _ w ⟨rfl, hG⟩ a hk
                have hs := hs.call0 hG
                refine sv (.bool y161) hk rfl rfl rfl fun a hk => ?_
                refine sa _ rfl hk rfl rfl rfl fun a hk => ?_
                show wpList _ _ _ [] _ _
                refine wpList_nil ?_
                obtain rfl := Option.some.inj H
                show R156 _ _
                rw [hR156]
                exact ⟨y161, rfl, (hk.c 4 rfl hk.k), (hs.pick [] rfl)⟩
              · have hk := hk.lit 87 c160 rfl
                refine sk hk rfl rfl rfl fun a hk => ?_
                refine sk hk rfl rfl rfl fun a hk => ?_
                refine sk hk rfl rfl rfl fun a hk => ?_
                refine sv (.bool false) hk rfl rfl rfl fun a hk => ?_
                refine sa _ rfl hk rfl rfl rfl fun a hk => ?_
                show wpList _ _ _ [] _ _
                refine wpList_nil ?_
                obtain rfl := Option.some.inj H
                show R156 _ _
                rw [hR156]
                exact ⟨false, rfl, (hk.c 4 rfl hk.k), (hs.pick [] rfl)⟩
            · have hk := hk.lit 82 c157 rfl
              refine sk hk rfl rfl rfl fun a hk => ?_
              refine sk hk rfl rfl rfl fun a hk => ?_
              refine sk hk rfl rfl rfl fun a hk => ?_
              refine sv (.bool false) hk rfl rfl rfl fun a hk => ?_
              refine sm _ rfl hk rfl rfl rfl fun a hk => ?_
              refine sk hk rfl rfl rfl fun a hk => ?_
              refine sk hk rfl rfl rfl fun a hk => ?_
              refine sk hk rfl rfl rfl fun a hk => ?_
              refine sv (.bool false) hk rfl rfl rfl fun a hk => ?_
              refine sa _ rfl hk rfl rfl rfl fun a hk => ?_
              show wpList _ _ _ [] _ _
              refine wpList_nil ?_
              obtain rfl := Option.some.inj H
              show R156 _ _
              rw [hR156]
              exact ⟨false, rfl, (hk.c 4 rfl hk.k), (hs.pick [] rfl)⟩
          · intro a w hR0
            rw [hR156] at hR0
            obtain ⟨u152, rfl, hk, hs⟩ := hR0
            have H := HL155
            try dsimp only at H
            refine hK150 _ _ ?_
            refine wp_ret ?_
            obtain rfl := Option.some.inj H
            exact fin hk _ [(.bool u152)] rfl ⟨rfl, trivial⟩ ⟨rfl, (hs.pick [] rfl).dnil⟩

end Go.Proofs.Ytlbbkehdfgjneaa
