/- The functions that FnDevice reaches: for each a model and the walk that shows that the Go code comes to it. -/
import Derived.Test.YtlbbkehdfgjneaaT
namespace Go.Proofs.Ytlbbkehdfgjneaa
open Go Go.Z Go.Proofs Go.MuLone Go.ChangeShapes Go.WideShapes Go.ChangeAt Go.RowKit
set_option linter.unusedVariables false
set_option linter.unusedSimpArgs false
noncomputable def laws_at.f (l0 : List Int) (x1 : Int) (x2 : Int) : Option (Int) :=
  (bif (decide (x2 ≤ 1)) then (some 0) else (bif ((l0.length : Int) == 0) then (if x2 = 0 then none else (some (Int.tmod (w64 (x1 * 7)) x2))) else (if (l0.length : Int) = 0 then none else (if 0 ≤ (Int.tmod x1 (l0.length : Int)) ∧ (Int.tmod x1 (l0.length : Int)) < (l0.length : Int) then (if (l0.length : Int) = 0 then none else (if 0 ≤ (Int.tmod (w64 (x1 + 1)) (l0.length : Int)) ∧ (Int.tmod (w64 (x1 + 1)) (l0.length : Int)) < (l0.length : Int) then (if (l0.length : Int) = 0 then none else (if x2 = 0 then none else (some (Int.tmod (w64 ((w64 ((w64 ((IntKind.wrap .i64 (l0.getD (Int.tmod x1 (l0.length : Int)).toNat 0)) * 31)) + (IntKind.wrap .i64 (l0.getD (Int.tmod (w64 (x1 + 1)) (l0.length : Int)).toNat 0)))) + (IntKind.wrap .i64 (Int.tdiv x1 (l0.length : Int))))) x2)))) else none)) else none))))
set_option maxRecDepth 100000 in
set_option maxHeartbeats 0 in
theorem laws_at_t (w0 : World) (A0_ : Option Addr) (p0_ : Nat) (l0 : List Int) (k0_ : Chunk) (v0_ : View (Lay.int .u8) A0_ p0_ l0 k0_) (w0_ : Has w0 k0_) (x1 : Int) (x2 : Int) (r : Int) (H : laws_at.f l0 x1 x2 = some r) :
    Calls Try.prog 32 #[.slice A0_ l0.length p0_, .int .i64 x1, .int .i64 x2] w0 (Ret (fun v w => v = .int .i64 r ∧ Sat [] w0 w [] [])) := by
  have hs : Sat [] w0 w0 [(1, k0_)] [] := Sat.init w0 [(1, k0_)] [] (by simp only [List.mem_cons, List.not_mem_nil, or_false]; rintro x (rfl) <;> assumption) (by simp) List.nodup_nil (by simp [blks])
  unfold laws_at.f at H
  refine enter Try.func32 rfl Try.ntmps32 rfl fun a hk => ?_
  apply wp_seq_k; intro K1 hK1
  apply wp_region_lit
  refine sa _ rfl hk rfl rfl rfl fun a hk => ?_
  show wpList _ _ _ [] _ _
  refine wpList_nil ?_
  refine hK1 _ _ ?_
  apply wp_seq_k; intro K2 hK2
  apply wp_seq_k; intro K3 hK3
  apply wp_region_lit
  refine sm _ rfl hk rfl rfl rfl fun a hk => ?_
  refine sv (.bool (decide (x2 ≤ 1))) hk rfl rfl rfl fun a hk => ?_
  show wpList _ _ _ [] _ _
  refine wpList_nil ?_
  refine hK3 _ _ ?_
  rcases cond_some H with ⟨c4, H⟩ | ⟨c4, H⟩
  ·have hk := hk.lit 8 c4 rfl
   refine cnd_true hk rfl rfl ?_
   apply wp_seq_k; intro K5 hK5
   apply wp_region_lit
   refine sa _ rfl hk rfl rfl rfl fun a hk => ?_
   show wpList _ _ _ [] _ _
   refine wpList_nil ?_
   refine hK5 _ _ ?_
   refine wp_ret ?_
   obtain rfl := Option.some.inj H
   exact fin hk _ [(.int .i64 0)] rfl ⟨rfl, trivial⟩ ⟨rfl, (hs.pick [] rfl).dnil⟩
  ·have hk := hk.lit 8 c4 rfl
   refine cnd_false hk rfl rfl ?_
   refine wp_skip ?_
   refine hK2 _ _ ?_
   apply wp_seq_k; intro K6 hK6
   apply wp_seq_k; intro K7 hK7
   apply wp_region_lit
   refine sm _ rfl hk rfl rfl rfl fun a hk => ?_
   refine sle rfl hk rfl rfl rfl un55 fun a hk => ?_
   refine sv (.bool ((l0.length : Int) == 0)) hk rfl rfl rfl fun a hk => ?_
   show wpList _ _ _ [] _ _
   refine wpList_nil ?_
   refine hK7 _ _ ?_
   have hs := hs.pick [] rfl
   rcases cond_some H with ⟨c8, H⟩ | ⟨c8, H⟩
   ·have hk := hk.lit 11 c8 rfl
    refine cnd_true hk rfl rfl ?_
    apply wp_seq_k; intro K9 hK9
    apply wp_region_lit
    refine sm _ rfl hk rfl rfl rfl fun a hk => ?_
    refine sv (.int .i64 (w64 (x1 * 7))) hk rfl rfl rfl fun a hk => ?_
    refine sm _ rfl hk rfl rfl rfl fun a hk => ?_
    rcases ite_some H with ⟨_, H⟩ | ⟨c10, H⟩
    ·cases H
    refine srm rfl hk rfl rfl rfl rfl c10 fun a hk => ?_
    refine sa _ rfl hk rfl rfl rfl fun a hk => ?_
    show wpList _ _ _ [] _ _
    refine wpList_nil ?_
    refine hK9 _ _ ?_
    refine wp_ret ?_
    obtain rfl := Option.some.inj H
    exact fin hk _ [(.int .i64 (Int.tmod (w64 (x1 * 7)) x2))] rfl ⟨rfl, trivial⟩ ⟨rfl, (hs.pick [] rfl).dnil⟩
   ·have hk := hk.lit 11 c8 rfl
    refine cnd_false hk rfl rfl ?_
    refine wp_skip ?_
    refine hK6 _ _ ?_
    apply wp_seq_k; intro K11 hK11
    refine wp_region_tree (.q 0 (.q 1 (.q 2 (.q 3 (.q 4 (.q 5 (.q 6 (.q 7 (.q 8 (.q 9 (.q 10 (.q 11 (.q 12 (.q 13 (.q 14 (.q 15 (.q 16 (.q 17 (.q 18 (.q 19 (.q 20 (.q 21 (.q 22 (.q 23 (.alt 24 (.alt 25 (.last 26) .stop) .stop))))))))))))))))))))))))) mo (by kernel_rfl) (hs.pick [] rfl) fun _ => ?_
    have hs := hs.drew
    refine tqst (.slice A0_ l0.length p0_) hk rfl rfl rfl rfl (fun w hs => sm _ rfl hk rfl rfl rfl fun a hk => qe hk) fun a hk => ?_
    refine tqst (.int .i64 x1) hk rfl rfl rfl rfl (fun w hs => sm _ rfl hk rfl rfl rfl fun a hk => qe hk) fun a hk => ?_
    refine tqst (.slice A0_ l0.length p0_) hk rfl rfl rfl rfl (fun w hs => sm _ rfl hk rfl rfl rfl fun a hk => qe hk) fun a hk => ?_
    refine tqst (.int .i64 (l0.length : Int)) hk rfl rfl rfl rfl (fun w hs => sle rfl hk rfl rfl rfl un55 fun a hk => qe hk) fun a hk => ?_
    rcases ite_some H with ⟨_, H⟩ | ⟨c13, H⟩
    ·cases H
    refine tqst (.int .i64 (Int.tmod x1 (l0.length : Int))) hk rfl rfl rfl rfl (fun w hs => srm rfl hk rfl rfl rfl rfl c13 fun a hk => qe hk) fun a hk => ?_
    rcases ite_some H with ⟨c14, H⟩ | ⟨_, H⟩
    rotate_left
    ·cases H
    obtain ⟨b15, q16, hAc14⟩ := (v0_).some_ (Int.tmod x1 (l0.length : Int)) c14.1 c14.2
    refine tqst (.pointer (some (padd A0_ ((Int.tmod x1 (l0.length : Int)).toNat * 1)))) hk rfl rfl rfl rfl (fun w hs => si rfl hk rfl rfl rfl rfl un55 sz5 c14.1 c14.2 hAc14 fun a hk => qe hk) fun a hk => ?_
    obtain ⟨_, rfl, e17⟩ := (v0_).at_ 0 (Int.tmod x1 (l0.length : Int)) c14.1 c14.2
    refine tqst (.int .u8 (l0.getD (Int.tmod x1 (l0.length : Int)).toNat 0)) hk rfl rfl rfl rfl (fun w hs => sl (v := (.int .u8 (l0.getD (Int.tmod x1 (l0.length : Int)).toNat 0))) rfl hk rfl rfl rfl ag5 ((e17 0 _ rfl).cell (hs.hasD (k := 1) rfl)) fun a hk => qe hk) fun a hk => ?_
    refine tqst (.int .i64 (IntKind.wrap .i64 (l0.getD (Int.tmod x1 (l0.length : Int)).toNat 0))) hk rfl rfl rfl rfl (fun w hs => scn rfl hk rfl rfl rfl un3 un5 fun a hk => qe hk) fun a hk => ?_
    refine tqst (.int .i64 (w64 ((IntKind.wrap .i64 (l0.getD (Int.tmod x1 (l0.length : Int)).toNat 0)) * 31))) hk rfl rfl rfl rfl (fun w hs => sv (.int .i64 (w64 ((IntKind.wrap .i64 (l0.getD (Int.tmod x1 (l0.length : Int)).toNat 0)) * 31))) hk rfl rfl rfl fun a hk => qe hk) fun a hk => ?_
    refine tqst (.slice A0_ l0.length p0_) hk rfl rfl rfl rfl (fun w hs => sm _ rfl hk rfl rfl rfl fun a hk => qe hk) fun a hk => ?_
    refine tqst (.int .i64 x1) hk rfl rfl rfl rfl (fun w hs => sm _ rfl hk rfl rfl rfl fun a hk => qe hk) fun a hk => ?_
    refine tqst (.int .i64 (w64 (x1 + 1))) hk rfl rfl rfl rfl (fun w hs => sv (.int .i64 (w64 (x1 + 1))) hk rfl rfl rfl fun a hk => qe hk) fun a hk => ?_
    refine tqst (.slice A0_ l0.length p0_) hk rfl rfl rfl rfl (fun w hs => sm _ rfl hk rfl rfl rfl fun a hk => qe hk) fun a hk => ?_
    refine tqst (.int .i64 (l0.length : Int)) hk rfl rfl rfl rfl (fun w hs => sle rfl hk rfl rfl rfl un55 fun a hk => qe hk) fun a hk => ?_
    rcases ite_some H with ⟨_, H⟩ | ⟨c18, H⟩
    ·cases H
    refine tqst (.int .i64 (Int.tmod (w64 (x1 + 1)) (l0.length : Int))) hk rfl rfl rfl rfl (fun w hs => srm rfl hk rfl rfl rfl rfl c18 fun a hk => qe hk) fun a hk => ?_
    rcases ite_some H with ⟨c19, H⟩ | ⟨_, H⟩
    rotate_left
    ·cases H
    obtain ⟨b20, q21, hAc19⟩ := (v0_).some_ (Int.tmod (w64 (x1 + 1)) (l0.length : Int)) c19.1 c19.2
    refine tqst (.pointer (some (padd A0_ ((Int.tmod (w64 (x1 + 1)) (l0.length : Int)).toNat * 1)))) hk rfl rfl rfl rfl (fun w hs => si rfl hk rfl rfl rfl rfl un55 sz5 c19.1 c19.2 hAc19 fun a hk => qe hk) fun a hk => ?_
    obtain ⟨_, rfl, e22⟩ := (v0_).at_ 0 (Int.tmod (w64 (x1 + 1)) (l0.length : Int)) c19.1 c19.2
    refine tqst (.int .u8 (l0.getD (Int.tmod (w64 (x1 + 1)) (l0.length : Int)).toNat 0)) hk rfl rfl rfl rfl (fun w hs => sl (v := (.int .u8 (l0.getD (Int.tmod (w64 (x1 + 1)) (l0.length : Int)).toNat 0))) rfl hk rfl rfl rfl ag5 ((e22 0 _ rfl).cell (hs.hasD (k := 1) rfl)) fun a hk => qe hk) fun a hk => ?_
    refine tqst (.int .i64 (IntKind.wrap .i64 (l0.getD (Int.tmod (w64 (x1 + 1)) (l0.length : Int)).toNat 0))) hk rfl rfl rfl rfl (fun w hs => scn rfl hk rfl rfl rfl un3 un5 fun a hk => qe hk) fun a hk => ?_
    refine tqst (.int .i64 (w64 ((w64 ((IntKind.wrap .i64 (l0.getD (Int.tmod x1 (l0.length : Int)).toNat 0)) * 31)) + (IntKind.wrap .i64 (l0.getD (Int.tmod (w64 (x1 + 1)) (l0.length : Int)).toNat 0))))) hk rfl rfl rfl rfl (fun w hs => sv (.int .i64 (w64 ((w64 ((IntKind.wrap .i64 (l0.getD (Int.tmod x1 (l0.length : Int)).toNat 0)) * 31)) + (IntKind.wrap .i64 (l0.getD (Int.tmod (w64 (x1 + 1)) (l0.length : Int)).toNat 0))))) hk rfl rfl rfl fun a hk => qe hk) fun a hk => ?_
    refine tqst (.int .i64 x1) hk rfl rfl rfl rfl (fun w hs => sm _ rfl hk rfl rfl rfl fun a hk => qe hk) fun a hk => ?_
    refine tqst (.slice A0_ l0.length p0_) hk rfl rfl rfl rfl (fun w hs => sm _ rfl hk rfl rfl rfl fun a hk => qe hk) fun a hk => ?_
    refine tqst (.int .i64 (l0.length : Int)) hk rfl rfl rfl rfl (fun w hs => sle rfl hk rfl rfl rfl un55 fun a hk => qe hk) fun a hk => ?_
    rcases ite_some H with ⟨_, H⟩ | ⟨c23, H⟩
    ·cases H
    refine tqst (.int .i64 (IntKind.wrap .i64 (Int.tdiv x1 (l0.length : Int)))) hk rfl rfl rfl rfl (fun w hs => sqo rfl hk rfl rfl rfl rfl c23 fun a hk => qe hk) fun a hk => ?_
    refine tqst (.int .i64 (w64 ((w64 ((w64 ((IntKind.wrap .i64 (l0.getD (Int.tmod x1 (l0.length : Int)).toNat 0)) * 31)) + (IntKind.wrap .i64 (l0.getD (Int.tmod (w64 (x1 + 1)) (l0.length : Int)).toNat 0)))) + (IntKind.wrap .i64 (Int.tdiv x1 (l0.length : Int)))))) hk rfl rfl rfl rfl (fun w hs => sv (.int .i64 (w64 ((w64 ((w64 ((IntKind.wrap .i64 (l0.getD (Int.tmod x1 (l0.length : Int)).toNat 0)) * 31)) + (IntKind.wrap .i64 (l0.getD (Int.tmod (w64 (x1 + 1)) (l0.length : Int)).toNat 0)))) + (IntKind.wrap .i64 (Int.tdiv x1 (l0.length : Int)))))) hk rfl rfl rfl fun a hk => qe hk) fun a hk => ?_
    refine tsst hk rfl rfl (fun K_r12_24 hK_r12_24 w hF => ?_) wt_stop
    have hs := hs.f hF
    refine sm _ rfl hk rfl rfl rfl fun a hk => ?_
    refine se (hs.pick [] rfl) hk (hK_r12_24 _ _ ?_)
    refine tsst hk rfl rfl (fun K_r12_25 hK_r12_25 w hF => ?_) wt_stop
    have hs := hs.f hF
    rcases ite_some H with ⟨_, H⟩ | ⟨c24, H⟩
    ·cases H
    refine srm rfl hk rfl rfl rfl rfl c24 fun a hk => ?_
    refine se (hs.pick [] rfl) hk (hK_r12_25 _ _ ?_)
    refine tlst hk rfl rfl fun K_r12_26 hK_r12_26 w hF => ?_
    have hs := hs.f hF
    refine sa _ rfl hk rfl rfl rfl fun a hk => ?_
    refine se trivial hk (hK_r12_26 _ _ fun w hF => ?_)
    have hs := hs.f hF
    refine hK11 _ _ ?_
    refine wp_ret ?_
    obtain rfl := Option.some.inj H
    exact fin hk _ [(.int .i64 (Int.tmod (w64 ((w64 ((w64 ((IntKind.wrap .i64 (l0.getD (Int.tmod x1 (l0.length : Int)).toNat 0)) * 31)) + (IntKind.wrap .i64 (l0.getD (Int.tmod (w64 (x1 + 1)) (l0.length : Int)).toNat 0)))) + (IntKind.wrap .i64 (Int.tdiv x1 (l0.length : Int))))) x2))] rfl ⟨rfl, trivial⟩ ⟨rfl, (hs.pick [] rfl).dnil⟩

noncomputable def spec_l00Source.f (l0 : List Int) : Option (S_l00Src) :=
  (some (⟨l0, 0, (Int.tmod (l0.length : Int) 1000)⟩ : S_l00Src))
set_option maxRecDepth 100000 in
set_option maxHeartbeats 0 in
theorem spec_l00Source_t (w0 : World) (A0_ : Option Addr) (p0_ : Nat) (l0 : List Int) (k0_ : Chunk) (v0_ : View (Lay.int .u8) A0_ p0_ l0 k0_) (w0_ : Has w0 k0_) (r : S_l00Src) (H : spec_l00Source.f l0 = some r) :
    Calls Try.prog 79 #[.slice A0_ l0.length p0_] w0 (Ret (fun v w => ∃ (bb0 : Nat), ∃ (A0 : Option Addr) (p0 : Nat), ∃ (kS : Chunk), v = .pointer (some ⟨bb0, 0, none⟩) ∧ View (Lay.int .u8) A0 p0 r.code (k0_ ++ kS) ∧ Sat [] w0 w [] [(0, [(bb0, .cells #[.slice A0 r.code.length p0, .int .i64 r.at_, .int .i64 r.seed] 159 (0, 0))]), (1, kS)])) := by
  have hs : Sat [] w0 w0 [(1, k0_)] [] := Sat.init w0 [(1, k0_)] [] (by simp only [List.mem_cons, List.not_mem_nil, or_false]; rintro x (rfl) <;> assumption) (by simp) List.nodup_nil (by simp [blks])
  unfold spec_l00Source.f at H
  refine enter Try.func79 rfl Try.ntmps79 rfl fun a hk => ?_
  apply wp_seq_k; intro K1 hK1
  apply wp_region_lit
  refine sa _ rfl hk rfl rfl rfl fun a hk => ?_
  show wpList _ _ _ [] _ _
  refine wpList_nil ?_
  refine hK1 _ _ ?_
  apply wp_seq_k; intro K2 hK2
  apply wp_region_lit
  refine sm _ rfl hk rfl rfl rfl fun a hk => ?_
  refine sm _ rfl hk rfl rfl rfl fun a hk => ?_
  refine sle rfl hk rfl rfl rfl un55 fun a hk => ?_
  refine sv (.int .i64 (Int.tmod (l0.length : Int) 1000)) hk rfl rfl rfl fun a hk => ?_
  refine sbd (pv := [(0, (.slice A0_ l0.length p0_)), (2, (.int .i64 (Int.tmod (l0.length : Int) 1000)))]) rfl hk rfl rfl rfl (bd159_0 A0_ l0.length p0_ (Int.tmod (l0.length : Int) 1000)) fun a hk => ?_
  refine sbx 2 hs rfl hk rfl rfl rfl rfl fun b3 w a hk hs => ?_
  refine sa _ rfl hk rfl rfl rfl fun a hk => ?_
  show wpList _ _ _ [] _ _
  refine wpList_nil ?_
  refine hK2 _ _ ?_
  refine wp_ret ?_
  obtain rfl := Option.some.inj H
  exact fin hk _ [(.pointer (some ⟨b3, 0, none⟩))] rfl ⟨rfl, trivial⟩ ⟨b3, A0_, p0_, _, rfl, (v0_).sub (Sub.l _ (Sub.refl _)), ((hs.addNil 3000).pick [(0, 2), (1, 3000)] rfl).dnil⟩

noncomputable def spec_l00Src_byte.f (x0 : S_l00Src) : Option (Int × Int × Int) :=
  (bif (decide ((w64 (x0.at_ + 1)) ≤ (x0.code.length : Int))) then (if 0 ≤ (w64 ((w64 (x0.at_ + 1)) - 1)) ∧ (w64 ((w64 (x0.at_ + 1)) - 1)) < (x0.code.length : Int) then (if 0 ≤ (w64 ((w64 (x0.at_ + 1)) - 1)) ∧ (w64 ((w64 (x0.at_ + 1)) - 1)) < (x0.code.length : Int) then (some ((IntKind.wrap .i64 (x0.code.getD (w64 ((w64 (x0.at_ + 1)) - 1)).toNat 0)), (w64 (x0.at_ + 1)), (Int.tmod (w64 ((w64 ((w64 (x0.seed * 31)) + (IntKind.wrap .i64 (x0.code.getD (w64 ((w64 (x0.at_ + 1)) - 1)).toNat 0)))) + 7)) 2147483648))) else none) else none) else (bif (decide ((w64 (x0.at_ + 1)) > 3000)) then (some (0, (w64 (x0.at_ + 1)), x0.seed)) else (some ((Int.tmod (IntKind.wrap .i64 (Int.tdiv (Int.tmod (w64 ((w64 (x0.seed * 1103515245)) + 12345)) 2147483648) 65536)) 256), (w64 (x0.at_ + 1)), (Int.tmod (w64 ((w64 (x0.seed * 1103515245)) + 12345)) 2147483648)))))
set_option maxRecDepth 100000 in
set_option maxHeartbeats 0 in
theorem spec_l00Src_byte_t (w0 : World) (b0_ : Nat) (x0 : S_l00Src) (A0_0 : Option Addr) (p0_0 : Nat) (k0_0 : Chunk) (v0_0 : View (Lay.int .u8) A0_0 p0_0 x0.code k0_0) (w0_0 : Has w0 k0_0) (hs0 : Sat (blks [(1, [(b0_, .cells #[.slice A0_0 x0.code.length p0_0, .int .i64 x0.at_, .int .i64 x0.seed] 159 (0, 0))])]) w0 w0 [(2, k0_0)] [(1, [(b0_, .cells #[.slice A0_0 x0.code.length p0_0, .int .i64 x0.at_, .int .i64 x0.seed] 159 (0, 0))])]) (r : Int × Int × Int) (H : spec_l00Src_byte.f x0 = some r) :
    Calls Try.prog 170 #[.pointer (some ⟨b0_, 0, none⟩)] w0 (Ret (fun v w => v = .int .i64 r.1 ∧ Sat (blks [(1, [(b0_, .cells #[.slice A0_0 x0.code.length p0_0, .int .i64 x0.at_, .int .i64 x0.seed] 159 (0, 0))])]) w0 w [] [(0, [(b0_, .cells #[.slice A0_0 x0.code.length p0_0, .int .i64 r.2.1, .int .i64 r.2.2] 159 (0, 0))])])) := by
  have hs := hs0
  unfold spec_l00Src_byte.f at H
  refine enter Try.func170 rfl Try.ntmps170 rfl fun a hk => ?_
  apply wp_seq_k; intro K1 hK1
  apply wp_region_lit
  refine sa _ rfl hk rfl rfl rfl fun a hk => ?_
  show wpList _ _ _ [] _ _
  refine wpList_nil ?_
  refine hK1 _ _ ?_
  apply wp_seq_k; intro K2 hK2
  apply wp_region_lit
  refine sm _ rfl hk rfl rfl rfl fun a hk => ?_
  refine snk rfl hk rfl rfl rfl fun a hk => ?_
  refine sf ⟨b0_, 1, none⟩ rfl hk rfl rfl rfl fd159_1 rfl fun a hk => ?_
  refine sl rfl hk rfl rfl rfl ag3 (box_cell hs (k := 1) rfl rfl) fun a hk => ?_
  refine sv (.int .i64 (w64 (x0.at_ + 1))) hk rfl rfl rfl fun a hk => ?_
  refine snk rfl hk rfl rfl rfl fun a hk => ?_
  refine sf ⟨b0_, 1, none⟩ rfl hk rfl rfl rfl fd159_1 rfl fun a hk => ?_
  refine ssx (cs' := #[.slice A0_0 x0.code.length p0_0, .int .i64 (w64 (x0.at_ + 1)), .int .i64 x0.seed]) 1 hs rfl rfl hk rfl rfl rfl rfl sz3 rfl rfl rfl rfl fun w a hk hs => ?_
  show wpList _ _ _ [] _ _
  refine wpList_nil ?_
  refine hK2 _ _ ?_
  apply wp_seq_k; intro K3 hK3
  apply wp_seq_k; intro K4 hK4
  refine wp_region_tree (.q 0 (.q 1 (.q 2 (.q 3 (.alt 4 (.alt 5 (.alt 6 (.alt 7 (.alt 8 (.alt 9 .done .stop) .stop) .stop) .stop) .stop) .stop))))) mo (by kernel_rfl) (hs.pick [(1, 1)] rfl) fun _ => ?_
  have hs := hs.drew
  refine tqst (.pointer (some ⟨b0_, 0, none⟩)) hk rfl rfl rfl rfl (fun w hs => sm _ rfl hk rfl rfl rfl fun a hk => qe hk) fun a hk => ?_
  refine tqst (.pointer (some ⟨b0_, 0, none⟩)) hk rfl rfl rfl rfl (fun w hs => snk rfl hk rfl rfl rfl fun a hk => qe hk) fun a hk => ?_
  refine tqst (.pointer (some ⟨b0_, 1, none⟩)) hk rfl rfl rfl rfl (fun w hs => sf ⟨b0_, 1, none⟩ rfl hk rfl rfl rfl fd159_1 rfl fun a hk => qe hk) fun a hk => ?_
  refine tqst (.int .i64 (w64 (x0.at_ + 1))) hk rfl rfl rfl rfl (fun w hs => sl rfl hk rfl rfl rfl ag3 (box_cell hs (k := 1) rfl rfl) fun a hk => qe hk) fun a hk => ?_
  refine tsst hk rfl rfl (fun K_r5_4 hK_r5_4 w hF => ?_) wt_stop
  have hs := hs.f hF
  refine sm _ rfl hk rfl rfl rfl fun a hk => ?_
  refine se (hs.pick [(1, 1)] rfl) hk (hK_r5_4 _ _ ?_)
  refine tsst hk rfl rfl (fun K_r5_5 hK_r5_5 w hF => ?_) wt_stop
  have hs := hs.f hF
  refine snk rfl hk rfl rfl rfl fun a hk => ?_
  refine se (hs.pick [(1, 1)] rfl) hk (hK_r5_5 _ _ ?_)
  refine tsst hk rfl rfl (fun K_r5_6 hK_r5_6 w hF => ?_) wt_stop
  have hs := hs.f hF
  refine sf ⟨b0_, 0, none⟩ rfl hk rfl rfl rfl fd159_0 rfl fun a hk => ?_
  refine se (hs.pick [(1, 1)] rfl) hk (hK_r5_6 _ _ ?_)
  refine tsst hk rfl rfl (fun K_r5_7 hK_r5_7 w hF => ?_) wt_stop
  have hs := hs.f hF
  refine sl rfl hk rfl rfl rfl ag55 (box_cell hs (k := 1) rfl rfl) fun a hk => ?_
  refine se (hs.pick [(1, 1)] rfl) hk (hK_r5_7 _ _ ?_)
  refine tsst hk rfl rfl (fun K_r5_8 hK_r5_8 w hF => ?_) wt_stop
  have hs := hs.f hF
  refine sle rfl hk rfl rfl rfl un55 fun a hk => ?_
  refine se (hs.pick [(1, 1)] rfl) hk (hK_r5_8 _ _ ?_)
  refine tsst hk rfl rfl (fun K_r5_9 hK_r5_9 w hF => ?_) wt_stop
  have hs := hs.f hF
  refine sv (.bool (decide ((w64 (x0.at_ + 1)) ≤ (x0.code.length : Int)))) hk rfl rfl rfl fun a hk => ?_
  refine se (hs.pick [(1, 1)] rfl) hk (hK_r5_9 _ _ ?_)
  refine wtl_nil fun w hF _ => ?_
  have hs := hs.f hF
  refine hK4 _ _ ?_
  rcases cond_some H with ⟨c6, H⟩ | ⟨c6, H⟩
  ·have hk := hk.lit 19 c6 rfl
   refine cnd_true hk rfl rfl ?_
   apply wp_seq_k; intro K7 hK7
   rcases ite_some H with ⟨c_r8_15_1, H⟩ | ⟨_, H⟩
   rotate_left
   ·cases H
   obtain ⟨R9, hR9⟩ : ∃ R : Act → World → Prop, R = fun a w => Kn [(0, (.pointer (some ⟨b0_, 0, none⟩)))] 76 a ∧ Sat (blks [(1, [(b0_, .cells #[.slice A0_0 x0.code.length p0_0, .int .i64 x0.at_, .int .i64 x0.seed] 159 (0, 0))])]) w0 w [(2, k0_0)] [(1, [(b0_, .cells #[.slice A0_0 x0.code.length p0_0, .int .i64 (w64 (x0.at_ + 1)), .int .i64 (Int.tmod (w64 ((w64 ((w64 (x0.seed * 31)) + (IntKind.wrap .i64 (x0.code.getD (w64 ((w64 (x0.at_ + 1)) - 1)).toNat 0)))) + 7)) 2147483648)] 159 (0, 0))])] := ⟨_, rfl⟩
   refine wp_cutq R9 ?_ ?_
   ·skip
    refine wp_region_tree (.q 0 (.q 1 (.q 2 (.q 3 (.q 6 (.q 7 (.q 8 (.q 10 (.q 11 (.q 12 (.alt 4 (.q 5 (.alt 9 (.alt 13 (.alt 14 (.alt 15 (.alt 16 (.alt 17 (.alt 18 (.alt 19 (.alt 20 (.alt 21 (.alt 22 (.alt 23 .done .stop) .stop) .stop) .stop) .stop) .stop) .stop) .stop) .stop) .stop) .stop) (.alt 13 (.q 14 (.alt 9 (.alt 15 (.alt 16 (.alt 17 (.alt 18 (.alt 19 (.alt 20 (.alt 21 (.alt 22 (.alt 23 .done .stop) .stop) .stop) .stop) .stop) .stop) .stop) .stop) .stop) .stop)) .stop))) (.alt 9 (.alt 4 (.q 5 (.alt 13 (.alt 14 (.alt 15 (.alt 16 (.alt 17 (.alt 18 (.alt 19 (.alt 20 (.alt 21 (.alt 22 (.alt 23 .done .stop) .stop) .stop) .stop) .stop) .stop) .stop) .stop) .stop) .stop) .stop)) (.alt 13 (.q 14 (.q 15 (.q 16 (.q 17 (.alt 4 (.alt 5 (.alt 18 (.alt 19 (.alt 20 (.alt 21 (.alt 22 (.alt 23 .done .stop) .stop) .stop) .stop) .stop) .stop) .stop) .stop))))) .stop)) (.alt 13 (.q 14 (.alt 4 (.q 5 (.alt 9 (.alt 15 (.alt 16 (.alt 17 (.alt 18 (.alt 19 (.alt 20 (.alt 21 (.alt 22 (.alt 23 .done .stop) .stop) .stop) .stop) .stop) .stop) .stop) .stop) .stop) .stop)) (.alt 9 (.q 15 (.q 16 (.q 17 (.alt 4 (.alt 5 (.alt 18 (.alt 19 (.alt 20 (.alt 21 (.alt 22 (.alt 23 .done .stop) .stop) .stop) .stop) .stop) .stop) .stop) .stop)))) .stop))) .stop))))))))))))) mo (by kernel_rfl) (hs.pick [] rfl) fun _ => ?_
    have hs := hs.drew
    refine tqst (.pointer (some ⟨b0_, 0, none⟩)) hk rfl rfl rfl rfl (fun w hs => sm _ rfl hk rfl rfl rfl fun a hk => qe hk) fun a hk => ?_
    refine tqst (.pointer (some ⟨b0_, 0, none⟩)) hk rfl rfl rfl rfl (fun w hs => sm _ rfl hk rfl rfl rfl fun a hk => qe hk) fun a hk => ?_
    refine tqst (.pointer (some ⟨b0_, 0, none⟩)) hk rfl rfl rfl rfl (fun w hs => snk rfl hk rfl rfl rfl fun a hk => qe hk) fun a hk => ?_
    refine tqst (.pointer (some ⟨b0_, 2, none⟩)) hk rfl rfl rfl rfl (fun w hs => sf ⟨b0_, 2, none⟩ rfl hk rfl rfl rfl fd159_2 rfl fun a hk => qe hk) fun a hk => ?_
    refine tqst (.pointer (some ⟨b0_, 0, none⟩)) hk rfl rfl rfl rfl (fun w hs => sm _ rfl hk rfl rfl rfl fun a hk => qe hk) fun a hk => ?_
    refine tqst (.pointer (some ⟨b0_, 0, none⟩)) hk rfl rfl rfl rfl (fun w hs => snk rfl hk rfl rfl rfl fun a hk => qe hk) fun a hk => ?_
    refine tqst (.pointer (some ⟨b0_, 0, none⟩)) hk rfl rfl rfl rfl (fun w hs => sf ⟨b0_, 0, none⟩ rfl hk rfl rfl rfl fd159_0 rfl fun a hk => qe hk) fun a hk => ?_
    refine tqst (.pointer (some ⟨b0_, 0, none⟩)) hk rfl rfl rfl rfl (fun w hs => sm _ rfl hk rfl rfl rfl fun a hk => qe hk) fun a hk => ?_
    refine tqst (.pointer (some ⟨b0_, 0, none⟩)) hk rfl rfl rfl rfl (fun w hs => snk rfl hk rfl rfl rfl fun a hk => qe hk) fun a hk => ?_
    refine tqst (.pointer (some ⟨b0_, 1, none⟩)) hk rfl rfl rfl rfl (fun w hs => sf ⟨b0_, 1, none⟩ rfl hk rfl rfl rfl fd159_1 rfl fun a hk => qe hk) fun a hk => ?_
    refine tsst hk rfl rfl (fun K_r8_4 hK_r8_4 w hF => ?_) ?_
    ·skip
     have hs := hs.f hF
     refine sl rfl hk rfl rfl rfl ag3 (box_cell hs (k := 1) rfl rfl) fun a hk => ?_
     refine se (hs.pick [] rfl) hk (hK_r8_4 _ _ ?_)
     refine tqst (.int .i64 (w64 (x0.seed * 31))) hk rfl rfl rfl rfl (fun w hs => sv (.int .i64 (w64 (x0.seed * 31))) hk rfl rfl rfl fun a hk => qe hk) fun a hk => ?_
     refine tsst hk rfl rfl (fun K_r8_9 hK_r8_9 w hF => ?_) ?_
     ·skip
      have hs := hs.f hF
      refine sl rfl hk rfl rfl rfl ag55 (box_cell hs (k := 1) rfl rfl) fun a hk => ?_
      refine se (hs.pick [] rfl) hk (hK_r8_9 _ _ ?_)
      refine tsst hk rfl rfl (fun K_r8_13 hK_r8_13 w hF => ?_) wt_stop
      have hs := hs.f hF
      refine sl rfl hk rfl rfl rfl ag3 (box_cell hs (k := 1) rfl rfl) fun a hk => ?_
      refine se (hs.pick [] rfl) hk (hK_r8_13 _ _ ?_)
      refine tsst hk rfl rfl (fun K_r8_14 hK_r8_14 w hF => ?_) wt_stop
      have hs := hs.f hF
      refine sv (.int .i64 (w64 ((w64 (x0.at_ + 1)) - 1))) hk rfl rfl rfl fun a hk => ?_
      refine se (hs.pick [] rfl) hk (hK_r8_14 _ _ ?_)
      refine tsst hk rfl rfl (fun K_r8_15 hK_r8_15 w hF => ?_) wt_stop
      have hs := hs.f hF
      obtain ⟨b_r8_15_2, q_r8_15_3, hAc_r8_15_1⟩ := (v0_0).some_ (w64 ((w64 (x0.at_ + 1)) - 1)) c_r8_15_1.1 c_r8_15_1.2
      refine si rfl hk rfl rfl rfl rfl un55 sz5 c_r8_15_1.1 c_r8_15_1.2 hAc_r8_15_1 fun a hk => ?_
      refine se (hs.pick [] rfl) hk (hK_r8_15 _ _ ?_)
      refine tsst hk rfl rfl (fun K_r8_16 hK_r8_16 w hF => ?_) wt_stop
      have hs := hs.f hF
      obtain ⟨_, rfl, e_r8_16_1⟩ := (v0_0).at_ 0 (w64 ((w64 (x0.at_ + 1)) - 1)) c_r8_15_1.1 c_r8_15_1.2
      refine sl (v := (.int .u8 (x0.code.getD (w64 ((w64 (x0.at_ + 1)) - 1)).toNat 0))) rfl hk rfl rfl rfl ag5 ((e_r8_16_1 0 _ rfl).cell (hs.hasD (k := 2) rfl)) fun a hk => ?_
      refine se (hs.pick [] rfl) hk (hK_r8_16 _ _ ?_)
      refine tsst hk rfl rfl (fun K_r8_17 hK_r8_17 w hF => ?_) wt_stop
      have hs := hs.f hF
      refine scn rfl hk rfl rfl rfl un3 un5 fun a hk => ?_
      refine se (hs.pick [] rfl) hk (hK_r8_17 _ _ ?_)
      refine tsst hk rfl rfl (fun K_r8_18 hK_r8_18 w hF => ?_) wt_stop
      have hs := hs.f hF
      refine sv (.int .i64 (w64 ((w64 (x0.seed * 31)) + (IntKind.wrap .i64 (x0.code.getD (w64 ((w64 (x0.at_ + 1)) - 1)).toNat 0))))) hk rfl rfl rfl fun a hk => ?_
      refine se (hs.pick [] rfl) hk (hK_r8_18 _ _ ?_)
      refine tsst hk rfl rfl (fun K_r8_19 hK_r8_19 w hF => ?_) wt_stop
      have hs := hs.f hF
      refine sv (.int .i64 (w64 ((w64 ((w64 (x0.seed * 31)) + (IntKind.wrap .i64 (x0.code.getD (w64 ((w64 (x0.at_ + 1)) - 1)).toNat 0)))) + 7))) hk rfl rfl rfl fun a hk => ?_
      refine se (hs.pick [] rfl) hk (hK_r8_19 _ _ ?_)
      refine tsst hk rfl rfl (fun K_r8_20 hK_r8_20 w hF => ?_) wt_stop
      have hs := hs.f hF
      refine sv (.int .i64 (Int.tmod (w64 ((w64 ((w64 (x0.seed * 31)) + (IntKind.wrap .i64 (x0.code.getD (w64 ((w64 (x0.at_ + 1)) - 1)).toNat 0)))) + 7)) 2147483648)) hk rfl rfl rfl fun a hk => ?_
      refine se (hs.pick [] rfl) hk (hK_r8_20 _ _ ?_)
      refine tsst hk rfl rfl (fun K_r8_21 hK_r8_21 w hF => ?_) wt_stop
      have hs := hs.f hF
      refine snk rfl hk rfl rfl rfl fun a hk => ?_
      refine se (hs.pick [] rfl) hk (hK_r8_21 _ _ ?_)
      refine tsst hk rfl rfl (fun K_r8_22 hK_r8_22 w hF => ?_) wt_stop
      have hs := hs.f hF
      refine sf ⟨b0_, 2, none⟩ rfl hk rfl rfl rfl fd159_2 rfl fun a hk => ?_
      refine se (hs.pick [] rfl) hk (hK_r8_22 _ _ ?_)
      refine tsst hk rfl rfl (fun K_r8_23 hK_r8_23 w hF => ?_) wt_stop
      have hs := hs.f hF
      refine ssx (cs' := #[.slice A0_0 x0.code.length p0_0, .int .i64 (w64 (x0.at_ + 1)), .int .i64 (Int.tmod (w64 ((w64 ((w64 (x0.seed * 31)) + (IntKind.wrap .i64 (x0.code.getD (w64 ((w64 (x0.at_ + 1)) - 1)).toNat 0)))) + 7)) 2147483648)]) 1 hs rfl rfl hk rfl rfl rfl rfl sz3 rfl rfl rfl rfl fun w a hk hs => ?_
      refine se (hs.pick [] rfl) hk (hK_r8_23 _ _ ?_)
      refine wtl_nil fun w hF _ => ?_
      have hs := hs.f hF
      show R9 _ _
      rw [hR9]
      exact ⟨(hk.c 0 rfl hk.k), (hs.pick [(1, 1)] rfl)⟩
     refine tsst hk rfl rfl (fun K_r8_13 hK_r8_13 w hF => ?_) wt_stop
     have hs := hs.f hF
     refine sl rfl hk rfl rfl rfl ag3 (box_cell hs (k := 1) rfl rfl) fun a hk => ?_
     refine se (hs.pick [] rfl) hk (hK_r8_13 _ _ ?_)
     refine tqst (.int .i64 (w64 ((w64 (x0.at_ + 1)) - 1))) hk rfl rfl rfl rfl (fun w hs => sv (.int .i64 (w64 ((w64 (x0.at_ + 1)) - 1))) hk rfl rfl rfl fun a hk => qe hk) fun a hk => ?_
     refine tsst hk rfl rfl (fun K_r8_9 hK_r8_9 w hF => ?_) wt_stop
     have hs := hs.f hF
     refine sl rfl hk rfl rfl rfl ag55 (box_cell hs (k := 1) rfl rfl) fun a hk => ?_
     refine se (hs.pick [] rfl) hk (hK_r8_9 _ _ ?_)
     refine tsst hk rfl rfl (fun K_r8_15 hK_r8_15 w hF => ?_) wt_stop
     have hs := hs.f hF
     obtain ⟨b_r8_15_2, q_r8_15_3, hAc_r8_15_1⟩ := (v0_0).some_ (w64 ((w64 (x0.at_ + 1)) - 1)) c_r8_15_1.1 c_r8_15_1.2
     refine si rfl hk rfl rfl rfl rfl un55 sz5 c_r8_15_1.1 c_r8_15_1.2 hAc_r8_15_1 fun a hk => ?_
     refine se (hs.pick [] rfl) hk (hK_r8_15 _ _ ?_)
     refine tsst hk rfl rfl (fun K_r8_16 hK_r8_16 w hF => ?_) wt_stop
     have hs := hs.f hF
     obtain ⟨_, rfl, e_r8_16_1⟩ := (v0_0).at_ 0 (w64 ((w64 (x0.at_ + 1)) - 1)) c_r8_15_1.1 c_r8_15_1.2
     refine sl (v := (.int .u8 (x0.code.getD (w64 ((w64 (x0.at_ + 1)) - 1)).toNat 0))) rfl hk rfl rfl rfl ag5 ((e_r8_16_1 0 _ rfl).cell (hs.hasD (k := 2) rfl)) fun a hk => ?_
     refine se (hs.pick [] rfl) hk (hK_r8_16 _ _ ?_)
     refine tsst hk rfl rfl (fun K_r8_17 hK_r8_17 w hF => ?_) wt_stop
     have hs := hs.f hF
     refine scn rfl hk rfl rfl rfl un3 un5 fun a hk => ?_
     refine se (hs.pick [] rfl) hk (hK_r8_17 _ _ ?_)
     refine tsst hk rfl rfl (fun K_r8_18 hK_r8_18 w hF => ?_) wt_stop
     have hs := hs.f hF
     refine sv (.int .i64 (w64 ((w64 (x0.seed * 31)) + (IntKind.wrap .i64 (x0.code.getD (w64 ((w64 (x0.at_ + 1)) - 1)).toNat 0))))) hk rfl rfl rfl fun a hk => ?_
     refine se (hs.pick [] rfl) hk (hK_r8_18 _ _ ?_)
     refine tsst hk rfl rfl (fun K_r8_19 hK_r8_19 w hF => ?_) wt_stop
     have hs := hs.f hF
     refine sv (.int .i64 (w64 ((w64 ((w64 (x0.seed * 31)) + (IntKind.wrap .i64 (x0.code.getD (w64 ((w64 (x0.at_ + 1)) - 1)).toNat 0)))) + 7))) hk rfl rfl rfl fun a hk => ?_
     refine se (hs.pick [] rfl) hk (hK_r8_19 _ _ ?_)
     refine tsst hk rfl rfl (fun K_r8_20 hK_r8_20 w hF => ?_) wt_stop
     have hs := hs.f hF
     refine sv (.int .i64 (Int.tmod (w64 ((w64 ((w64 (x0.seed * 31)) + (IntKind.wrap .i64 (x0.code.getD (w64 ((w64 (x0.at_ + 1)) - 1)).toNat 0)))) + 7)) 2147483648)) hk rfl rfl rfl fun a hk => ?_
     refine se (hs.pick [] rfl) hk (hK_r8_20 _ _ ?_)
     refine tsst hk rfl rfl (fun K_r8_21 hK_r8_21 w hF => ?_) wt_stop
     have hs := hs.f hF
     refine snk rfl hk rfl rfl rfl fun a hk => ?_
     refine se (hs.pick [] rfl) hk (hK_r8_21 _ _ ?_)
     refine tsst hk rfl rfl (fun K_r8_22 hK_r8_22 w hF => ?_) wt_stop
     have hs := hs.f hF
     refine sf ⟨b0_, 2, none⟩ rfl hk rfl rfl rfl fd159_2 rfl fun a hk => ?_
     refine se (hs.pick [] rfl) hk (hK_r8_22 _ _ ?_)
     refine tsst hk rfl rfl (fun K_r8_23 hK_r8_23 w hF => ?_) wt_stop
     have hs := hs.f hF
     refine ssx (cs' := #[.slice A0_0 x0.code.length p0_0, .int .i64 (w64 (x0.at_ + 1)), .int .i64 (Int.tmod (w64 ((w64 ((w64 (x0.seed * 31)) + (IntKind.wrap .i64 (x0.code.getD (w64 ((w64 (x0.at_ + 1)) - 1)).toNat 0)))) + 7)) 2147483648)]) 1 hs rfl rfl hk rfl rfl rfl rfl sz3 rfl rfl rfl rfl fun w a hk hs => ?_
     refine se (hs.pick [] rfl) hk (hK_r8_23 _ _ ?_)
     refine wtl_nil fun w hF _ => ?_
     have hs := hs.f hF
     show R9 _ _
     rw [hR9]
     exact ⟨(hk.c 0 rfl hk.k), (hs.pick [(1, 1)] rfl)⟩
    refine tsst hk rfl rfl (fun K_r8_9 hK_r8_9 w hF => ?_) ?_
    ·skip
     have hs := hs.f hF
     refine sl rfl hk rfl rfl rfl ag55 (box_cell hs (k := 1) rfl rfl) fun a hk => ?_
     refine se (hs.pick [] rfl) hk (hK_r8_9 _ _ ?_)
     refine tsst hk rfl rfl (fun K_r8_4 hK_r8_4 w hF => ?_) ?_
     ·skip
      have hs := hs.f hF
      refine sl rfl hk rfl rfl rfl ag3 (box_cell hs (k := 1) rfl rfl) fun a hk => ?_
      refine se (hs.pick [] rfl) hk (hK_r8_4 _ _ ?_)
      refine tqst (.int .i64 (w64 (x0.seed * 31))) hk rfl rfl rfl rfl (fun w hs => sv (.int .i64 (w64 (x0.seed * 31))) hk rfl rfl rfl fun a hk => qe hk) fun a hk => ?_
      refine tsst hk rfl rfl (fun K_r8_13 hK_r8_13 w hF => ?_) wt_stop
      have hs := hs.f hF
      refine sl rfl hk rfl rfl rfl ag3 (box_cell hs (k := 1) rfl rfl) fun a hk => ?_
      refine se (hs.pick [] rfl) hk (hK_r8_13 _ _ ?_)
      refine tsst hk rfl rfl (fun K_r8_14 hK_r8_14 w hF => ?_) wt_stop
      have hs := hs.f hF
      refine sv (.int .i64 (w64 ((w64 (x0.at_ + 1)) - 1))) hk rfl rfl rfl fun a hk => ?_
      refine se (hs.pick [] rfl) hk (hK_r8_14 _ _ ?_)
      refine tsst hk rfl rfl (fun K_r8_15 hK_r8_15 w hF => ?_) wt_stop
      have hs := hs.f hF
      obtain ⟨b_r8_15_2, q_r8_15_3, hAc_r8_15_1⟩ := (v0_0).some_ (w64 ((w64 (x0.at_ + 1)) - 1)) c_r8_15_1.1 c_r8_15_1.2
      refine si rfl hk rfl rfl rfl rfl un55 sz5 c_r8_15_1.1 c_r8_15_1.2 hAc_r8_15_1 fun a hk => ?_
      refine se (hs.pick [] rfl) hk (hK_r8_15 _ _ ?_)
      refine tsst hk rfl rfl (fun K_r8_16 hK_r8_16 w hF => ?_) wt_stop
      have hs := hs.f hF
      obtain ⟨_, rfl, e_r8_16_1⟩ := (v0_0).at_ 0 (w64 ((w64 (x0.at_ + 1)) - 1)) c_r8_15_1.1 c_r8_15_1.2
      refine sl (v := (.int .u8 (x0.code.getD (w64 ((w64 (x0.at_ + 1)) - 1)).toNat 0))) rfl hk rfl rfl rfl ag5 ((e_r8_16_1 0 _ rfl).cell (hs.hasD (k := 2) rfl)) fun a hk => ?_
      refine se (hs.pick [] rfl) hk (hK_r8_16 _ _ ?_)
      refine tsst hk rfl rfl (fun K_r8_17 hK_r8_17 w hF => ?_) wt_stop
      have hs := hs.f hF
      refine scn rfl hk rfl rfl rfl un3 un5 fun a hk => ?_
      refine se (hs.pick [] rfl) hk (hK_r8_17 _ _ ?_)
      refine tsst hk rfl rfl (fun K_r8_18 hK_r8_18 w hF => ?_) wt_stop
      have hs := hs.f hF
      refine sv (.int .i64 (w64 ((w64 (x0.seed * 31)) + (IntKind.wrap .i64 (x0.code.getD (w64 ((w64 (x0.at_ + 1)) - 1)).toNat 0))))) hk rfl rfl rfl fun a hk => ?_
      refine se (hs.pick [] rfl) hk (hK_r8_18 _ _ ?_)
      refine tsst hk rfl rfl (fun K_r8_19 hK_r8_19 w hF => ?_) wt_stop
      have hs := hs.f hF
      refine sv (.int .i64 (w64 ((w64 ((w64 (x0.seed * 31)) + (IntKind.wrap .i64 (x0.code.getD (w64 ((w64 (x0.at_ + 1)) - 1)).toNat 0)))) + 7))) hk rfl rfl rfl fun a hk => ?_
      refine se (hs.pick [] rfl) hk (hK_r8_19 _ _ ?_)
      refine tsst hk rfl rfl (fun K_r8_20 hK_r8_20 w hF => ?_) wt_stop
      have hs := hs.f hF
      refine sv (.int .i64 (Int.tmod (w64 ((w64 ((w64 (x0.seed * 31)) + (IntKind.wrap .i64 (x0.code.getD (w64 ((w64 (x0.at_ + 1)) - 1)).toNat 0)))) + 7)) 2147483648)) hk rfl rfl rfl fun a hk => ?_
      refine se (hs.pick [] rfl) hk (hK_r8_20 _ _ ?_)
      refine tsst hk rfl rfl (fun K_r8_21 hK_r8_21 w hF => ?_) wt_stop
      have hs := hs.f hF
      refine snk rfl hk rfl rfl rfl fun a hk => ?_
      refine se (hs.pick [] rfl) hk (hK_r8_21 _ _ ?_)
      refine tsst hk rfl rfl (fun K_r8_22 hK_r8_22 w hF => ?_) wt_stop
      have hs := hs.f hF
      refine sf ⟨b0_, 2, none⟩ rfl hk rfl rfl rfl fd159_2 rfl fun a hk => ?_
      refine se (hs.pick [] rfl) hk (hK_r8_22 _ _ ?_)
      refine tsst hk rfl rfl (fun K_r8_23 hK_r8_23 w hF => ?_) wt_stop
      have hs := hs.f hF
      refine ssx (cs' := #[.slice A0_0 x0.code.length p0_0, .int .i64 (w64 (x0.at_ + 1)), .int .i64 (Int.tmod (w64 ((w64 ((w64 (x0.seed * 31)) + (IntKind.wrap .i64 (x0.code.getD (w64 ((w64 (x0.at_ + 1)) - 1)).toNat 0)))) + 7)) 2147483648)]) 1 hs rfl rfl hk rfl rfl rfl rfl sz3 rfl rfl rfl rfl fun w a hk hs => ?_
      refine se (hs.pick [] rfl) hk (hK_r8_23 _ _ ?_)
      refine wtl_nil fun w hF _ => ?_
      have hs := hs.f hF
      show R9 _ _
      rw [hR9]
      exact ⟨(hk.c 0 rfl hk.k), (hs.pick [(1, 1)] rfl)⟩
     refine tsst hk rfl rfl (fun K_r8_13 hK_r8_13 w hF => ?_) wt_stop
     have hs := hs.f hF
     refine sl rfl hk rfl rfl rfl ag3 (box_cell hs (k := 1) rfl rfl) fun a hk => ?_
     refine se (hs.pick [] rfl) hk (hK_r8_13 _ _ ?_)
     refine tqst (.int .i64 (w64 ((w64 (x0.at_ + 1)) - 1))) hk rfl rfl rfl rfl (fun w hs => sv (.int .i64 (w64 ((w64 (x0.at_ + 1)) - 1))) hk rfl rfl rfl fun a hk => qe hk) fun a hk => ?_
     obtain ⟨b_r8_15_2, q_r8_15_3, hAc_r8_15_1⟩ := (v0_0).some_ (w64 ((w64 (x0.at_ + 1)) - 1)) c_r8_15_1.1 c_r8_15_1.2
     refine tqst (.pointer (some (padd A0_0 ((w64 ((w64 (x0.at_ + 1)) - 1)).toNat * 1)))) hk rfl rfl rfl rfl (fun w hs => si rfl hk rfl rfl rfl rfl un55 sz5 c_r8_15_1.1 c_r8_15_1.2 hAc_r8_15_1 fun a hk => qe hk) fun a hk => ?_
     obtain ⟨_, rfl, e_r8_16_1⟩ := (v0_0).at_ 0 (w64 ((w64 (x0.at_ + 1)) - 1)) c_r8_15_1.1 c_r8_15_1.2
     refine tqst (.int .u8 (x0.code.getD (w64 ((w64 (x0.at_ + 1)) - 1)).toNat 0)) hk rfl rfl rfl rfl (fun w hs => sl (v := (.int .u8 (x0.code.getD (w64 ((w64 (x0.at_ + 1)) - 1)).toNat 0))) rfl hk rfl rfl rfl ag5 ((e_r8_16_1 0 _ rfl).cell (hs.hasD (k := 2) rfl)) fun a hk => qe hk) fun a hk => ?_
     refine tqst (.int .i64 (IntKind.wrap .i64 (x0.code.getD (w64 ((w64 (x0.at_ + 1)) - 1)).toNat 0))) hk rfl rfl rfl rfl (fun w hs => scn rfl hk rfl rfl rfl un3 un5 fun a hk => qe hk) fun a hk => ?_
     refine tsst hk rfl rfl (fun K_r8_4 hK_r8_4 w hF => ?_) wt_stop
     have hs := hs.f hF
     refine sl rfl hk rfl rfl rfl ag3 (box_cell hs (k := 1) rfl rfl) fun a hk => ?_
     refine se (hs.pick [] rfl) hk (hK_r8_4 _ _ ?_)
     refine tsst hk rfl rfl (fun K_r8_5 hK_r8_5 w hF => ?_) wt_stop
     have hs := hs.f hF
     refine sv (.int .i64 (w64 (x0.seed * 31))) hk rfl rfl rfl fun a hk => ?_
     refine se (hs.pick [] rfl) hk (hK_r8_5 _ _ ?_)
     refine tsst hk rfl rfl (fun K_r8_18 hK_r8_18 w hF => ?_) wt_stop
     have hs := hs.f hF
     refine sv (.int .i64 (w64 ((w64 (x0.seed * 31)) + (IntKind.wrap .i64 (x0.code.getD (w64 ((w64 (x0.at_ + 1)) - 1)).toNat 0))))) hk rfl rfl rfl fun a hk => ?_
     refine se (hs.pick [] rfl) hk (hK_r8_18 _ _ ?_)
     refine tsst hk rfl rfl (fun K_r8_19 hK_r8_19 w hF => ?_) wt_stop
     have hs := hs.f hF
     refine sv (.int .i64 (w64 ((w64 ((w64 (x0.seed * 31)) + (IntKind.wrap .i64 (x0.code.getD (w64 ((w64 (x0.at_ + 1)) - 1)).toNat 0)))) + 7))) hk rfl rfl rfl fun a hk => ?_
     refine se (hs.pick [] rfl) hk (hK_r8_19 _ _ ?_)
     refine tsst hk rfl rfl (fun K_r8_20 hK_r8_20 w hF => ?_) wt_stop
     have hs := hs.f hF
     refine sv (.int .i64 (Int.tmod (w64 ((w64 ((w64 (x0.seed * 31)) + (IntKind.wrap .i64 (x0.code.getD (w64 ((w64 (x0.at_ + 1)) - 1)).toNat 0)))) + 7)) 2147483648)) hk rfl rfl rfl fun a hk => ?_
     refine se (hs.pick [] rfl) hk (hK_r8_20 _ _ ?_)
     refine tsst hk rfl rfl (fun K_r8_21 hK_r8_21 w hF => ?_) wt_stop
     have hs := hs.f hF
     refine snk rfl hk rfl rfl rfl fun a hk => ?_
     refine se (hs.pick [] rfl) hk (hK_r8_21 _ _ ?_)
     refine tsst hk rfl rfl (fun K_r8_22 hK_r8_22 w hF => ?_) wt_stop
     have hs := hs.f hF
     refine sf ⟨b0_, 2, none⟩ rfl hk rfl rfl rfl fd159_2 rfl fun a hk => ?_
     refine se (hs.pick [] rfl) hk (hK_r8_22 _ _ ?_)
     refine tsst hk rfl rfl (fun K_r8_23 hK_r8_23 w hF => ?_) wt_stop
     have hs := hs.f hF
     refine ssx (cs' := #[.slice A0_0 x0.code.length p0_0, .int .i64 (w64 (x0.at_ + 1)), .int .i64 (Int.tmod (w64 ((w64 ((w64 (x0.seed * 31)) + (IntKind.wrap .i64 (x0.code.getD (w64 ((w64 (x0.at_ + 1)) - 1)).toNat 0)))) + 7)) 2147483648)]) 1 hs rfl rfl hk rfl rfl rfl rfl sz3 rfl rfl rfl rfl fun w a hk hs => ?_
     refine se (hs.pick [] rfl) hk (hK_r8_23 _ _ ?_)
     refine wtl_nil fun w hF _ => ?_
     have hs := hs.f hF
     show R9 _ _
     rw [hR9]
     exact ⟨(hk.c 0 rfl hk.k), (hs.pick [(1, 1)] rfl)⟩
    refine tsst hk rfl rfl (fun K_r8_13 hK_r8_13 w hF => ?_) wt_stop
    have hs := hs.f hF
    refine sl rfl hk rfl rfl rfl ag3 (box_cell hs (k := 1) rfl rfl) fun a hk => ?_
    refine se (hs.pick [] rfl) hk (hK_r8_13 _ _ ?_)
    refine tqst (.int .i64 (w64 ((w64 (x0.at_ + 1)) - 1))) hk rfl rfl rfl rfl (fun w hs => sv (.int .i64 (w64 ((w64 (x0.at_ + 1)) - 1))) hk rfl rfl rfl fun a hk => qe hk) fun a hk => ?_
    refine tsst hk rfl rfl (fun K_r8_4 hK_r8_4 w hF => ?_) ?_
    ·skip
     have hs := hs.f hF
     refine sl rfl hk rfl rfl rfl ag3 (box_cell hs (k := 1) rfl rfl) fun a hk => ?_
     refine se (hs.pick [] rfl) hk (hK_r8_4 _ _ ?_)
     refine tqst (.int .i64 (w64 (x0.seed * 31))) hk rfl rfl rfl rfl (fun w hs => sv (.int .i64 (w64 (x0.seed * 31))) hk rfl rfl rfl fun a hk => qe hk) fun a hk => ?_
     refine tsst hk rfl rfl (fun K_r8_9 hK_r8_9 w hF => ?_) wt_stop
     have hs := hs.f hF
     refine sl rfl hk rfl rfl rfl ag55 (box_cell hs (k := 1) rfl rfl) fun a hk => ?_
     refine se (hs.pick [] rfl) hk (hK_r8_9 _ _ ?_)
     refine tsst hk rfl rfl (fun K_r8_15 hK_r8_15 w hF => ?_) wt_stop
     have hs := hs.f hF
     obtain ⟨b_r8_15_2, q_r8_15_3, hAc_r8_15_1⟩ := (v0_0).some_ (w64 ((w64 (x0.at_ + 1)) - 1)) c_r8_15_1.1 c_r8_15_1.2
     refine si rfl hk rfl rfl rfl rfl un55 sz5 c_r8_15_1.1 c_r8_15_1.2 hAc_r8_15_1 fun a hk => ?_
     refine se (hs.pick [] rfl) hk (hK_r8_15 _ _ ?_)
     refine tsst hk rfl rfl (fun K_r8_16 hK_r8_16 w hF => ?_) wt_stop
     have hs := hs.f hF
     obtain ⟨_, rfl, e_r8_16_1⟩ := (v0_0).at_ 0 (w64 ((w64 (x0.at_ + 1)) - 1)) c_r8_15_1.1 c_r8_15_1.2
     refine sl (v := (.int .u8 (x0.code.getD (w64 ((w64 (x0.at_ + 1)) - 1)).toNat 0))) rfl hk rfl rfl rfl ag5 ((e_r8_16_1 0 _ rfl).cell (hs.hasD (k := 2) rfl)) fun a hk => ?_
     refine se (hs.pick [] rfl) hk (hK_r8_16 _ _ ?_)
     refine tsst hk rfl rfl (fun K_r8_17 hK_r8_17 w hF => ?_) wt_stop
     have hs := hs.f hF
     refine scn rfl hk rfl rfl rfl un3 un5 fun a hk => ?_
     refine se (hs.pick [] rfl) hk (hK_r8_17 _ _ ?_)
     refine tsst hk rfl rfl (fun K_r8_18 hK_r8_18 w hF => ?_) wt_stop
     have hs := hs.f hF
     refine sv (.int .i64 (w64 ((w64 (x0.seed * 31)) + (IntKind.wrap .i64 (x0.code.getD (w64 ((w64 (x0.at_ + 1)) - 1)).toNat 0))))) hk rfl rfl rfl fun a hk => ?_
     refine se (hs.pick [] rfl) hk (hK_r8_18 _ _ ?_)
     refine tsst hk rfl rfl (fun K_r8_19 hK_r8_19 w hF => ?_) wt_stop
     have hs := hs.f hF
     refine sv (.int .i64 (w64 ((w64 ((w64 (x0.seed * 31)) + (IntKind.wrap .i64 (x0.code.getD (w64 ((w64 (x0.at_ + 1)) - 1)).toNat 0)))) + 7))) hk rfl rfl rfl fun a hk => ?_
     refine se (hs.pick [] rfl) hk (hK_r8_19 _ _ ?_)
     refine tsst hk rfl rfl (fun K_r8_20 hK_r8_20 w hF => ?_) wt_stop
     have hs := hs.f hF
     refine sv (.int .i64 (Int.tmod (w64 ((w64 ((w64 (x0.seed * 31)) + (IntKind.wrap .i64 (x0.code.getD (w64 ((w64 (x0.at_ + 1)) - 1)).toNat 0)))) + 7)) 2147483648)) hk rfl rfl rfl fun a hk => ?_
     refine se (hs.pick [] rfl) hk (hK_r8_20 _ _ ?_)
     refine tsst hk rfl rfl (fun K_r8_21 hK_r8_21 w hF => ?_) wt_stop
     have hs := hs.f hF
     refine snk rfl hk rfl rfl rfl fun a hk => ?_
     refine se (hs.pick [] rfl) hk (hK_r8_21 _ _ ?_)
     refine tsst hk rfl rfl (fun K_r8_22 hK_r8_22 w hF => ?_) wt_stop
     have hs := hs.f hF
     refine sf ⟨b0_, 2, none⟩ rfl hk rfl rfl rfl fd159_2 rfl fun a hk => ?_
     refine se (hs.pick [] rfl) hk (hK_r8_22 _ _ ?_)
     refine tsst hk rfl rfl (fun K_r8_23 hK_r8_23 w hF => ?_) wt_stop
     have hs := hs.f hF
     refine ssx (cs' := #[.slice A0_0 x0.code.length p0_0, .int .i64 (w64 (x0.at_ + 1)), .int .i64 (Int.tmod (w64 ((w64 ((w64 (x0.seed * 31)) + (IntKind.wrap .i64 (x0.code.getD (w64 ((w64 (x0.at_ + 1)) - 1)).toNat 0)))) + 7)) 2147483648)]) 1 hs rfl rfl hk rfl rfl rfl rfl sz3 rfl rfl rfl rfl fun w a hk hs => ?_
     refine se (hs.pick [] rfl) hk (hK_r8_23 _ _ ?_)
     refine wtl_nil fun w hF _ => ?_
     have hs := hs.f hF
     show R9 _ _
     rw [hR9]
     exact ⟨(hk.c 0 rfl hk.k), (hs.pick [(1, 1)] rfl)⟩
    refine tsst hk rfl rfl (fun K_r8_9 hK_r8_9 w hF => ?_) wt_stop
    have hs := hs.f hF
    refine sl rfl hk rfl rfl rfl ag55 (box_cell hs (k := 1) rfl rfl) fun a hk => ?_
    refine se (hs.pick [] rfl) hk (hK_r8_9 _ _ ?_)
    obtain ⟨b_r8_15_2, q_r8_15_3, hAc_r8_15_1⟩ := (v0_0).some_ (w64 ((w64 (x0.at_ + 1)) - 1)) c_r8_15_1.1 c_r8_15_1.2
    refine tqst (.pointer (some (padd A0_0 ((w64 ((w64 (x0.at_ + 1)) - 1)).toNat * 1)))) hk rfl rfl rfl rfl (fun w hs => si rfl hk rfl rfl rfl rfl un55 sz5 c_r8_15_1.1 c_r8_15_1.2 hAc_r8_15_1 fun a hk => qe hk) fun a hk => ?_
    obtain ⟨_, rfl, e_r8_16_1⟩ := (v0_0).at_ 0 (w64 ((w64 (x0.at_ + 1)) - 1)) c_r8_15_1.1 c_r8_15_1.2
    refine tqst (.int .u8 (x0.code.getD (w64 ((w64 (x0.at_ + 1)) - 1)).toNat 0)) hk rfl rfl rfl rfl (fun w hs => sl (v := (.int .u8 (x0.code.getD (w64 ((w64 (x0.at_ + 1)) - 1)).toNat 0))) rfl hk rfl rfl rfl ag5 ((e_r8_16_1 0 _ rfl).cell (hs.hasD (k := 2) rfl)) fun a hk => qe hk) fun a hk => ?_
    refine tqst (.int .i64 (IntKind.wrap .i64 (x0.code.getD (w64 ((w64 (x0.at_ + 1)) - 1)).toNat 0))) hk rfl rfl rfl rfl (fun w hs => scn rfl hk rfl rfl rfl un3 un5 fun a hk => qe hk) fun a hk => ?_
    refine tsst hk rfl rfl (fun K_r8_4 hK_r8_4 w hF => ?_) wt_stop
    have hs := hs.f hF
    refine sl rfl hk rfl rfl rfl ag3 (box_cell hs (k := 1) rfl rfl) fun a hk => ?_
    refine se (hs.pick [] rfl) hk (hK_r8_4 _ _ ?_)
    refine tsst hk rfl rfl (fun K_r8_5 hK_r8_5 w hF => ?_) wt_stop
    have hs := hs.f hF
    refine sv (.int .i64 (w64 (x0.seed * 31))) hk rfl rfl rfl fun a hk => ?_
    refine se (hs.pick [] rfl) hk (hK_r8_5 _ _ ?_)
    refine tsst hk rfl rfl (fun K_r8_18 hK_r8_18 w hF => ?_) wt_stop
    have hs := hs.f hF
    refine sv (.int .i64 (w64 ((w64 (x0.seed * 31)) + (IntKind.wrap .i64 (x0.code.getD (w64 ((w64 (x0.at_ + 1)) - 1)).toNat 0))))) hk rfl rfl rfl fun a hk => ?_
    refine se (hs.pick [] rfl) hk (hK_r8_18 _ _ ?_)
    refine tsst hk rfl rfl (fun K_r8_19 hK_r8_19 w hF => ?_) wt_stop
    have hs := hs.f hF
    refine sv (.int .i64 (w64 ((w64 ((w64 (x0.seed * 31)) + (IntKind.wrap .i64 (x0.code.getD (w64 ((w64 (x0.at_ + 1)) - 1)).toNat 0)))) + 7))) hk rfl rfl rfl fun a hk => ?_
    refine se (hs.pick [] rfl) hk (hK_r8_19 _ _ ?_)
    refine tsst hk rfl rfl (fun K_r8_20 hK_r8_20 w hF => ?_) wt_stop
    have hs := hs.f hF
    refine sv (.int .i64 (Int.tmod (w64 ((w64 ((w64 (x0.seed * 31)) + (IntKind.wrap .i64 (x0.code.getD (w64 ((w64 (x0.at_ + 1)) - 1)).toNat 0)))) + 7)) 2147483648)) hk rfl rfl rfl fun a hk => ?_
    refine se (hs.pick [] rfl) hk (hK_r8_20 _ _ ?_)
    refine tsst hk rfl rfl (fun K_r8_21 hK_r8_21 w hF => ?_) wt_stop
    have hs := hs.f hF
    refine snk rfl hk rfl rfl rfl fun a hk => ?_
    refine se (hs.pick [] rfl) hk (hK_r8_21 _ _ ?_)
    refine tsst hk rfl rfl (fun K_r8_22 hK_r8_22 w hF => ?_) wt_stop
    have hs := hs.f hF
    refine sf ⟨b0_, 2, none⟩ rfl hk rfl rfl rfl fd159_2 rfl fun a hk => ?_
    refine se (hs.pick [] rfl) hk (hK_r8_22 _ _ ?_)
    refine tsst hk rfl rfl (fun K_r8_23 hK_r8_23 w hF => ?_) wt_stop
    have hs := hs.f hF
    refine ssx (cs' := #[.slice A0_0 x0.code.length p0_0, .int .i64 (w64 (x0.at_ + 1)), .int .i64 (Int.tmod (w64 ((w64 ((w64 (x0.seed * 31)) + (IntKind.wrap .i64 (x0.code.getD (w64 ((w64 (x0.at_ + 1)) - 1)).toNat 0)))) + 7)) 2147483648)]) 1 hs rfl rfl hk rfl rfl rfl rfl sz3 rfl rfl rfl rfl fun w a hk hs => ?_
    refine se (hs.pick [] rfl) hk (hK_r8_23 _ _ ?_)
    refine wtl_nil fun w hF _ => ?_
    have hs := hs.f hF
    show R9 _ _
    rw [hR9]
    exact ⟨(hk.c 0 rfl hk.k), (hs.pick [(1, 1)] rfl)⟩
   ·intro a w hR0
    rw [hR9] at hR0
    obtain ⟨hk, hs⟩ := hR0
    refine hK7 _ _ ?_
    have hs := hs.pick [(1, 1)] rfl
    apply wp_seq_k; intro K10 hK10
    refine wp_region_tree (.q 0 (.q 1 (.q 2 (.q 3 (.alt 4 (.alt 5 (.alt 6 (.alt 7 (.alt 8 (.alt 9 (.alt 10 (.alt 11 (.last 12) .stop) .stop) .stop) .stop) .stop) .stop) .stop) .stop))))) mo (by kernel_rfl) (hs.pick [(1, 1)] rfl) fun _ => ?_
    have hs := hs.drew
    refine tqst (.pointer (some ⟨b0_, 0, none⟩)) hk rfl rfl rfl rfl (fun w hs => sm _ rfl hk rfl rfl rfl fun a hk => qe hk) fun a hk => ?_
    refine tqst (.pointer (some ⟨b0_, 0, none⟩)) hk rfl rfl rfl rfl (fun w hs => snk rfl hk rfl rfl rfl fun a hk => qe hk) fun a hk => ?_
    refine tqst (.pointer (some ⟨b0_, 0, none⟩)) hk rfl rfl rfl rfl (fun w hs => sf ⟨b0_, 0, none⟩ rfl hk rfl rfl rfl fd159_0 rfl fun a hk => qe hk) fun a hk => ?_
    refine tqst (.slice A0_0 x0.code.length p0_0) hk rfl rfl rfl rfl (fun w hs => sl rfl hk rfl rfl rfl ag55 (box_cell hs (k := 1) rfl rfl) fun a hk => qe hk) fun a hk => ?_
    refine tsst hk rfl rfl (fun K_r11_4 hK_r11_4 w hF => ?_) wt_stop
    have hs := hs.f hF
    refine sm _ rfl hk rfl rfl rfl fun a hk => ?_
    refine se (hs.pick [(1, 1)] rfl) hk (hK_r11_4 _ _ ?_)
    refine tsst hk rfl rfl (fun K_r11_5 hK_r11_5 w hF => ?_) wt_stop
    have hs := hs.f hF
    refine snk rfl hk rfl rfl rfl fun a hk => ?_
    refine se (hs.pick [(1, 1)] rfl) hk (hK_r11_5 _ _ ?_)
    refine tsst hk rfl rfl (fun K_r11_6 hK_r11_6 w hF => ?_) wt_stop
    have hs := hs.f hF
    refine sf ⟨b0_, 1, none⟩ rfl hk rfl rfl rfl fd159_1 rfl fun a hk => ?_
    refine se (hs.pick [(1, 1)] rfl) hk (hK_r11_6 _ _ ?_)
    refine tsst hk rfl rfl (fun K_r11_7 hK_r11_7 w hF => ?_) wt_stop
    have hs := hs.f hF
    refine sl rfl hk rfl rfl rfl ag3 (box_cell hs (k := 1) rfl rfl) fun a hk => ?_
    refine se (hs.pick [(1, 1)] rfl) hk (hK_r11_7 _ _ ?_)
    refine tsst hk rfl rfl (fun K_r11_8 hK_r11_8 w hF => ?_) wt_stop
    have hs := hs.f hF
    refine sv (.int .i64 (w64 ((w64 (x0.at_ + 1)) - 1))) hk rfl rfl rfl fun a hk => ?_
    refine se (hs.pick [(1, 1)] rfl) hk (hK_r11_8 _ _ ?_)
    refine tsst hk rfl rfl (fun K_r11_9 hK_r11_9 w hF => ?_) wt_stop
    have hs := hs.f hF
    rcases ite_some H with ⟨c12, H⟩ | ⟨_, H⟩
    rotate_left
    ·cases H
    obtain ⟨b13, q14, hAc12⟩ := (v0_0).some_ (w64 ((w64 (x0.at_ + 1)) - 1)) c12.1 c12.2
    refine si rfl hk rfl rfl rfl rfl un55 sz5 c12.1 c12.2 hAc12 fun a hk => ?_
    refine se (hs.pick [(1, 1)] rfl) hk (hK_r11_9 _ _ ?_)
    refine tsst hk rfl rfl (fun K_r11_10 hK_r11_10 w hF => ?_) wt_stop
    have hs := hs.f hF
    obtain ⟨_, rfl, e15⟩ := (v0_0).at_ 0 (w64 ((w64 (x0.at_ + 1)) - 1)) c12.1 c12.2
    refine sl (v := (.int .u8 (x0.code.getD (w64 ((w64 (x0.at_ + 1)) - 1)).toNat 0))) rfl hk rfl rfl rfl ag5 ((e15 0 _ rfl).cell (hs.hasD (k := 2) rfl)) fun a hk => ?_
    refine se (hs.pick [(1, 1)] rfl) hk (hK_r11_10 _ _ ?_)
    refine tsst hk rfl rfl (fun K_r11_11 hK_r11_11 w hF => ?_) wt_stop
    have hs := hs.f hF
    refine scn rfl hk rfl rfl rfl un3 un5 fun a hk => ?_
    refine se (hs.pick [(1, 1)] rfl) hk (hK_r11_11 _ _ ?_)
    refine tlst hk rfl rfl fun K_r11_12 hK_r11_12 w hF => ?_
    have hs := hs.f hF
    refine sa _ rfl hk rfl rfl rfl fun a hk => ?_
    refine se trivial hk (hK_r11_12 _ _ fun w hF => ?_)
    have hs := hs.f hF
    refine hK10 _ _ ?_
    refine wp_ret ?_
    obtain rfl := Option.some.inj H
    exact fin hk _ [(.int .i64 (IntKind.wrap .i64 (x0.code.getD (w64 ((w64 (x0.at_ + 1)) - 1)).toNat 0)))] rfl ⟨rfl, trivial⟩ ⟨rfl, (hs.pick [(0, 1)] rfl).dnil⟩
  ·have hk := hk.lit 19 c6 rfl
   refine cnd_false hk rfl rfl ?_
   refine wp_skip ?_
   refine hK3 _ _ ?_
   have hs := hs.pick [(1, 1)] rfl
   apply wp_seq_k; intro K16 hK16
   apply wp_seq_k; intro K17 hK17
   apply wp_region_lit
   refine sm _ rfl hk rfl rfl rfl fun a hk => ?_
   refine snk rfl hk rfl rfl rfl fun a hk => ?_
   refine sf ⟨b0_, 1, none⟩ rfl hk rfl rfl rfl fd159_1 rfl fun a hk => ?_
   refine sl rfl hk rfl rfl rfl ag3 (box_cell hs (k := 1) rfl rfl) fun a hk => ?_
   refine sv (.bool (decide ((w64 (x0.at_ + 1)) > 3000))) hk rfl rfl rfl fun a hk => ?_
   show wpList _ _ _ [] _ _
   refine wpList_nil ?_
   refine hK17 _ _ ?_
   rcases cond_some H with ⟨c18, H⟩ | ⟨c18, H⟩
   ·have hk := hk.lit 59 c18 rfl
    refine cnd_true hk rfl rfl ?_
    apply wp_seq_k; intro K19 hK19
    apply wp_region_lit
    refine sa _ rfl hk rfl rfl rfl fun a hk => ?_
    show wpList _ _ _ [] _ _
    refine wpList_nil ?_
    refine hK19 _ _ ?_
    refine wp_ret ?_
    obtain rfl := Option.some.inj H
    exact fin hk _ [(.int .i64 0)] rfl ⟨rfl, trivial⟩ ⟨rfl, (hs.pick [(0, 1)] rfl).dnil⟩
   ·have hk := hk.lit 59 c18 rfl
    refine cnd_false hk rfl rfl ?_
    refine wp_skip ?_
    refine hK16 _ _ ?_
    apply wp_seq_k; intro K20 hK20
    apply wp_region_lit
    refine sm _ rfl hk rfl rfl rfl fun a hk => ?_
    refine sm _ rfl hk rfl rfl rfl fun a hk => ?_
    refine snk rfl hk rfl rfl rfl fun a hk => ?_
    refine sf ⟨b0_, 2, none⟩ rfl hk rfl rfl rfl fd159_2 rfl fun a hk => ?_
    refine sl rfl hk rfl rfl rfl ag3 (box_cell hs (k := 1) rfl rfl) fun a hk => ?_
    refine sv (.int .i64 (w64 (x0.seed * 1103515245))) hk rfl rfl rfl fun a hk => ?_
    refine sv (.int .i64 (w64 ((w64 (x0.seed * 1103515245)) + 12345))) hk rfl rfl rfl fun a hk => ?_
    refine sv (.int .i64 (Int.tmod (w64 ((w64 (x0.seed * 1103515245)) + 12345)) 2147483648)) hk rfl rfl rfl fun a hk => ?_
    refine snk rfl hk rfl rfl rfl fun a hk => ?_
    refine sf ⟨b0_, 2, none⟩ rfl hk rfl rfl rfl fd159_2 rfl fun a hk => ?_
    refine ssx (cs' := #[.slice A0_0 x0.code.length p0_0, .int .i64 (w64 (x0.at_ + 1)), .int .i64 (Int.tmod (w64 ((w64 (x0.seed * 1103515245)) + 12345)) 2147483648)]) 1 hs rfl rfl hk rfl rfl rfl rfl sz3 rfl rfl rfl rfl fun w a hk hs => ?_
    show wpList _ _ _ [] _ _
    refine wpList_nil ?_
    refine hK20 _ _ ?_
    apply wp_seq_k; intro K21 hK21
    apply wp_region_lit
    refine sm _ rfl hk rfl rfl rfl fun a hk => ?_
    refine snk rfl hk rfl rfl rfl fun a hk => ?_
    refine sf ⟨b0_, 2, none⟩ rfl hk rfl rfl rfl fd159_2 rfl fun a hk => ?_
    refine sl rfl hk rfl rfl rfl ag3 (box_cell hs (k := 1) rfl rfl) fun a hk => ?_
    refine sv (.int .i64 (IntKind.wrap .i64 (Int.tdiv (Int.tmod (w64 ((w64 (x0.seed * 1103515245)) + 12345)) 2147483648) 65536))) hk rfl rfl rfl fun a hk => ?_
    refine sv (.int .i64 (Int.tmod (IntKind.wrap .i64 (Int.tdiv (Int.tmod (w64 ((w64 (x0.seed * 1103515245)) + 12345)) 2147483648) 65536)) 256)) hk rfl rfl rfl fun a hk => ?_
    refine sa _ rfl hk rfl rfl rfl fun a hk => ?_
    show wpList _ _ _ [] _ _
    refine wpList_nil ?_
    refine hK21 _ _ ?_
    have hs := hs.pick [(1, 1)] rfl
    refine wp_ret ?_
    obtain rfl := Option.some.inj H
    exact fin hk _ [(.int .i64 (Int.tmod (IntKind.wrap .i64 (Int.tdiv (Int.tmod (w64 ((w64 (x0.seed * 1103515245)) + 12345)) 2147483648) 65536)) 256))] rfl ⟨rfl, trivial⟩ ⟨rfl, (hs.pick [(0, 1)] rfl).dnil⟩

noncomputable def spec_l00Src_next.f (x0 : S_l00Src) (x1 : Int) : Option (Int × Int × Int) :=
  (bif (decide (x1 ≤ 1)) then (some (0, x0.at_, x0.seed)) else (bif (decide (x1 ≤ 256)) then ((spec_l00Src_byte.f x0).bind fun y10 => (if x1 = 0 then none else (some ((Int.tmod y10.1 x1), y10.2.1, y10.2.2)))) else ((spec_l00Src_byte.f x0).bind fun y14 => ((spec_l00Src_byte.f (⟨x0.code, y14.2.1, y14.2.2⟩ : S_l00Src)).bind fun y17 => ((spec_l00Src_byte.f (⟨x0.code, y17.2.1, y17.2.2⟩ : S_l00Src)).bind fun y20 => (if x1 = 0 then none else (some ((Int.tmod (w64 ((w64 ((w64 (y14.1 * 65536)) + (w64 (y17.1 * 256)))) + y20.1)) x1), y20.2.1, y20.2.2))))))))
set_option maxRecDepth 100000 in
set_option maxHeartbeats 0 in
theorem spec_l00Src_next_t (w0 : World) (b0_ : Nat) (x0 : S_l00Src) (A0_0 : Option Addr) (p0_0 : Nat) (k0_0 : Chunk) (v0_0 : View (Lay.int .u8) A0_0 p0_0 x0.code k0_0) (w0_0 : Has w0 k0_0) (x1 : Int) (hs0 : Sat (blks [(1, [(b0_, .cells #[.slice A0_0 x0.code.length p0_0, .int .i64 x0.at_, .int .i64 x0.seed] 159 (0, 0))])]) w0 w0 [(2, k0_0)] [(1, [(b0_, .cells #[.slice A0_0 x0.code.length p0_0, .int .i64 x0.at_, .int .i64 x0.seed] 159 (0, 0))])]) (r : Int × Int × Int) (H : spec_l00Src_next.f x0 x1 = some r) :
    Calls Try.prog 134 #[.pointer (some ⟨b0_, 0, none⟩), .int .i64 x1] w0 (Ret (fun v w => v = .int .i64 r.1 ∧ Sat (blks [(1, [(b0_, .cells #[.slice A0_0 x0.code.length p0_0, .int .i64 x0.at_, .int .i64 x0.seed] 159 (0, 0))])]) w0 w [] [(0, [(b0_, .cells #[.slice A0_0 x0.code.length p0_0, .int .i64 r.2.1, .int .i64 r.2.2] 159 (0, 0))])])) := by
  have hs := hs0
  unfold spec_l00Src_next.f at H
  refine enter Try.func134 rfl Try.ntmps134 rfl fun a hk => ?_
  apply wp_seq_k; intro K1 hK1
  apply wp_region_lit
  refine sa _ rfl hk rfl rfl rfl fun a hk => ?_
  show wpList _ _ _ [] _ _
  refine wpList_nil ?_
  refine hK1 _ _ ?_
  apply wp_seq_k; intro K2 hK2
  apply wp_seq_k; intro K3 hK3
  apply wp_region_lit
  refine sm _ rfl hk rfl rfl rfl fun a hk => ?_
  refine sv (.bool (decide (x1 ≤ 1))) hk rfl rfl rfl fun a hk => ?_
  show wpList _ _ _ [] _ _
  refine wpList_nil ?_
  refine hK3 _ _ ?_
  rcases cond_some H with ⟨c4, H⟩ | ⟨c4, H⟩
  ·have hk := hk.lit 9 c4 rfl
   refine cnd_true hk rfl rfl ?_
   apply wp_seq_k; intro K5 hK5
   apply wp_region_lit
   refine sa _ rfl hk rfl rfl rfl fun a hk => ?_
   show wpList _ _ _ [] _ _
   refine wpList_nil ?_
   refine hK5 _ _ ?_
   refine wp_ret ?_
   obtain rfl := Option.some.inj H
   exact fin hk _ [(.int .i64 0)] rfl ⟨rfl, trivial⟩ ⟨rfl, (hs.pick [(0, 1)] rfl).dnil⟩
  ·have hk := hk.lit 9 c4 rfl
   refine cnd_false hk rfl rfl ?_
   refine wp_skip ?_
   refine hK2 _ _ ?_
   apply wp_seq_k; intro K6 hK6
   apply wp_seq_k; intro K7 hK7
   apply wp_region_lit
   refine sm _ rfl hk rfl rfl rfl fun a hk => ?_
   refine sv (.bool (decide (x1 ≤ 256))) hk rfl rfl rfl fun a hk => ?_
   show wpList _ _ _ [] _ _
   refine wpList_nil ?_
   refine hK7 _ _ ?_
   have hs := hs.pick [(1, 1)] rfl
   rcases cond_some H with ⟨c8, H⟩ | ⟨c8, H⟩
   ·have hk := hk.lit 11 c8 rfl
    refine cnd_true hk rfl rfl ?_
    apply wp_seq_k; intro K9 hK9
    apply wp_region_lit
    refine sm _ rfl hk rfl rfl rfl fun a hk => ?_
    obtain ⟨y10, h11, H⟩ := bind_some H
    refine sc rfl en170 hk rfl rfl rfl (spec_l00Src_byte_t _ b0_ x0 A0_0 p0_0 _ v0_0 (hs.hasD (k := 2) rfl) ((hs.hand [(1, 1)] rfl).dpick [(2, 2)] rfl) _ h11) ?_
    rintro _ w ⟨rfl, hG⟩ a hk
    have hs := hs.back [(1, 1)] rfl hG [1] rfl
    refine sm _ rfl hk rfl rfl rfl fun a hk => ?_
    rcases ite_some H with ⟨_, H⟩ | ⟨c12, H⟩
    ·cases H
    refine srm rfl hk rfl rfl rfl rfl c12 fun a hk => ?_
    refine sa _ rfl hk rfl rfl rfl fun a hk => ?_
    show wpList _ _ _ [] _ _
    refine wpList_nil ?_
    refine hK9 _ _ ?_
    refine wp_ret ?_
    obtain rfl := Option.some.inj H
    exact fin hk _ [(.int .i64 (Int.tmod y10.1 x1))] rfl ⟨rfl, trivial⟩ ⟨rfl, (hs.pick [(0, 1)] rfl).dnil⟩
   ·have hk := hk.lit 11 c8 rfl
    refine cnd_false hk rfl rfl ?_
    refine wp_skip ?_
    refine hK6 _ _ ?_
    apply wp_seq_k; intro K13 hK13
    apply wp_region_lit
    refine sm _ rfl hk rfl rfl rfl fun a hk => ?_
    obtain ⟨y14, h15, H⟩ := bind_some H
    refine sc rfl en170 hk rfl rfl rfl (spec_l00Src_byte_t _ b0_ x0 A0_0 p0_0 _ v0_0 (hs.hasD (k := 2) rfl) ((hs.hand [(1, 1)] rfl).dpick [(2, 2)] rfl) _ h15) ?_
    rintro _ w ⟨rfl, hG⟩ a hk
    have hs := hs.back [(1, 1)] rfl hG [1] rfl
    refine sa _ rfl hk rfl rfl rfl fun a hk => ?_
    show wpList _ _ _ [] _ _
    refine wpList_nil ?_
    refine hK13 _ _ ?_
    apply wp_seq_k; intro K16 hK16
    apply wp_region_lit
    refine sm _ rfl hk rfl rfl rfl fun a hk => ?_
    obtain ⟨y17, h18, H⟩ := bind_some H
    refine sc rfl en170 hk rfl rfl rfl (spec_l00Src_byte_t _ b0_ (⟨x0.code, y14.2.1, y14.2.2⟩ : S_l00Src) A0_0 p0_0 _ v0_0 (hs.hasD (k := 2) rfl) ((hs.hand [(1, 1)] rfl).dpick [(2, 2)] rfl) _ h18) ?_
    rintro _ w ⟨rfl, hG⟩ a hk
    have hs := hs.back [(1, 1)] rfl hG [1] rfl
    refine sa _ rfl hk rfl rfl rfl fun a hk => ?_
    show wpList _ _ _ [] _ _
    refine wpList_nil ?_
    refine hK16 _ _ ?_
    apply wp_seq_k; intro K19 hK19
    apply wp_region_lit
    refine sm _ rfl hk rfl rfl rfl fun a hk => ?_
    obtain ⟨y20, h21, H⟩ := bind_some H
    refine sc rfl en170 hk rfl rfl rfl (spec_l00Src_byte_t _ b0_ (⟨x0.code, y17.2.1, y17.2.2⟩ : S_l00Src) A0_0 p0_0 _ v0_0 (hs.hasD (k := 2) rfl) ((hs.hand [(1, 1)] rfl).dpick [(2, 2)] rfl) _ h21) ?_
    rintro _ w ⟨rfl, hG⟩ a hk
    have hs := hs.back [(1, 1)] rfl hG [1] rfl
    refine sa _ rfl hk rfl rfl rfl fun a hk => ?_
    show wpList _ _ _ [] _ _
    refine wpList_nil ?_
    refine hK19 _ _ ?_
    have hs := hs.pick [(1, 1)] rfl
    apply wp_seq_k; intro K22 hK22
    apply wp_region_lit
    refine sm _ rfl hk rfl rfl rfl fun a hk => ?_
    refine sv (.int .i64 (w64 (y14.1 * 65536))) hk rfl rfl rfl fun a hk => ?_
    refine sm _ rfl hk rfl rfl rfl fun a hk => ?_
    refine sv (.int .i64 (w64 (y17.1 * 256))) hk rfl rfl rfl fun a hk => ?_
    refine sv (.int .i64 (w64 ((w64 (y14.1 * 65536)) + (w64 (y17.1 * 256))))) hk rfl rfl rfl fun a hk => ?_
    refine sm _ rfl hk rfl rfl rfl fun a hk => ?_
    refine sv (.int .i64 (w64 ((w64 ((w64 (y14.1 * 65536)) + (w64 (y17.1 * 256)))) + y20.1))) hk rfl rfl rfl fun a hk => ?_
    refine sm _ rfl hk rfl rfl rfl fun a hk => ?_
    rcases ite_some H with ⟨_, H⟩ | ⟨c23, H⟩
    ·cases H
    refine srm rfl hk rfl rfl rfl rfl c23 fun a hk => ?_
    refine sa _ rfl hk rfl rfl rfl fun a hk => ?_
    show wpList _ _ _ [] _ _
    refine wpList_nil ?_
    refine hK22 _ _ ?_
    refine wp_ret ?_
    obtain rfl := Option.some.inj H
    exact fin hk _ [(.int .i64 (Int.tmod (w64 ((w64 ((w64 (y14.1 * 65536)) + (w64 (y17.1 * 256)))) + y20.1)) x1))] rfl ⟨rfl, trivial⟩ ⟨rfl, (hs.pick [(0, 1)] rfl).dnil⟩

noncomputable def spec_l00Src_bytes.s0 (x0 : S_l00Src) (x1 : Int) (u17 : List Int) (u14 : Int) (u15 : Int) (u16 : Int) : Option (((List Int) × Int × Int × Int) ⊕ Ex ((List Int) × Int × Int) (ByteArray × Int × Int)) :=
  (bif (decide (u14 < x1)) then ((spec_l00Src_next.f (⟨x0.code, u15, u16⟩ : S_l00Src) 256).bind fun y41 => (if u17.length + ([(IntKind.wrap .u8 y41.1)]).length ≤ 1073741824 then (some (.inl ((u17 ++ ([(IntKind.wrap .u8 y41.1)])), (w64 (u14 + 1)), y41.2.1, y41.2.2))) else none)) else (some (.inr (.out (u17, u15, u16)))))
noncomputable def spec_l00Src_bytes.f (x0 : S_l00Src) (x1 : Int) : Option (ByteArray × Int × Int) :=
  ((loopO (fun s => spec_l00Src_bytes.s0 x0 x1 s.1 s.2.1 s.2.2.1 s.2.2.2) (([] : List Int), 0, x0.at_, x0.seed)).bind fun o => match o with | .out (u22, u27, u28) => (some ((strOfNums u22), u27, u28)) | .ret r => (some r))
set_option maxRecDepth 100000 in
set_option maxHeartbeats 0 in
theorem spec_l00Src_bytes_t (w0 : World) (b0_ : Nat) (x0 : S_l00Src) (A0_0 : Option Addr) (p0_0 : Nat) (k0_0 : Chunk) (v0_0 : View (Lay.int .u8) A0_0 p0_0 x0.code k0_0) (w0_0 : Has w0 k0_0) (x1 : Int) (hs0 : Sat (blks [(1, [(b0_, .cells #[.slice A0_0 x0.code.length p0_0, .int .i64 x0.at_, .int .i64 x0.seed] 159 (0, 0))])]) w0 w0 [(2, k0_0)] [(1, [(b0_, .cells #[.slice A0_0 x0.code.length p0_0, .int .i64 x0.at_, .int .i64 x0.seed] 159 (0, 0))])]) (r : ByteArray × Int × Int) (H : spec_l00Src_bytes.f x0 x1 = some r) :
    Calls Try.prog 85 #[.pointer (some ⟨b0_, 0, none⟩), .int .i64 x1] w0 (Ret (fun v w => v = .string r.1 ∧ Sat (blks [(1, [(b0_, .cells #[.slice A0_0 x0.code.length p0_0, .int .i64 x0.at_, .int .i64 x0.seed] 159 (0, 0))])]) w0 w [] [(0, [(b0_, .cells #[.slice A0_0 x0.code.length p0_0, .int .i64 r.2.1, .int .i64 r.2.2] 159 (0, 0))])])) := by
  have hs := hs0
  unfold spec_l00Src_bytes.f at H
  refine enter Try.func85 rfl Try.ntmps85 rfl fun a hk => ?_
  apply wp_seq_k; intro K1 hK1
  apply wp_region_lit
  refine sa _ rfl hk rfl rfl rfl fun a hk => ?_
  show wpList _ _ _ [] _ _
  refine wpList_nil ?_
  refine hK1 _ _ ?_
  apply wp_seq_k; intro K2 hK2
  apply wp_region_lit
  refine sbs0 3 (Lay.int .u8) hs rfl hk rfl rfl un55 sz5 fun b3 k4 w a hk o5 hs => ?_
  refine sa _ rfl hk rfl rfl rfl fun a hk => ?_
  show wpList _ _ _ [] _ _
  refine wpList_nil ?_
  refine hK2 _ _ ?_
  apply wp_seq_k; intro K6 hK6
  apply wp_seq_k; intro K7 hK7
  apply wp_region_lit
  refine sa _ rfl hk rfl rfl rfl fun a hk => ?_
  show wpList _ _ _ [] _ _
  refine wpList_nil ?_
  refine hK7 _ _ ?_
  obtain ⟨o29, h30, HL31⟩ := bind_some H
  clear H
  obtain ⟨R32, hR32⟩ : ∃ R : Act → World → Prop, R = fun a w => ∃ (u22 : List Int) (u27 : Int) (u28 : Int) (A25 : Option Addr) (p26 : Nat) (k23 : Chunk), o29 = .out (u22, u27, u28) ∧ Kn [(0, (.pointer (some ⟨b0_, 0, none⟩))), (5, (.slice A25 u22.length p26))] 21 a ∧ Sat (blks [(1, [(b0_, .cells #[.slice A0_0 x0.code.length p0_0, .int .i64 x0.at_, .int .i64 x0.seed] 159 (0, 0))])]) w0 w [(2, k0_0)] [(3, k23), (1, [(b0_, .cells #[.slice A0_0 x0.code.length p0_0, .int .i64 u27, .int .i64 u28] 159 (0, 0))])] ∧ Own (Lay.int .u8) 5 A25 p26 u22 k23 := ⟨_, rfl⟩
  refine wp_cutq R32 ?_ ?_
  ·refine wp_block ?_
   obtain ⟨fu34, h30⟩ := loopO_some h30
   obtain ⟨I33, hI33⟩ : ∃ I : Nat → Act → World → Prop, I = fun fu a w => ∃ (u17 : List Int) (u14 : Int) (u15 : Int) (u16 : Int) (A20 : Option Addr) (p21 : Nat) (k18 : Chunk), loopN (fun s => spec_l00Src_bytes.s0 x0 x1 s.1 s.2.1 s.2.2.1 s.2.2.2) fu (u17, u14, u15, u16) = some o29 ∧ Kn [(0, (.pointer (some ⟨b0_, 0, none⟩))), (1, (.int .i64 x1)), (5, (.slice A20 u17.length p21)), (6, (.int .i64 u14))] 21 a ∧ Sat (blks [(1, [(b0_, .cells #[.slice A0_0 x0.code.length p0_0, .int .i64 x0.at_, .int .i64 x0.seed] 159 (0, 0))])]) w0 w [(2, k0_0)] [(3, k18), (1, [(b0_, .cells #[.slice A0_0 x0.code.length p0_0, .int .i64 u15, .int .i64 u16] 159 (0, 0))])] ∧ Own (Lay.int .u8) 5 A20 p21 u17 k18 := ⟨_, rfl⟩
   refine wp_loop_ghost I33 fu34 ?_ ?_
   ·rw [hI33]
    exact ⟨([] : List Int), 0, x0.at_, x0.seed, (some ⟨b3, 0, none⟩), 0, _, h30, (hk.c 0 rfl (hk.c 1 rfl (hk.c 5 rfl (hk.c 6 rfl hk.k)))), (hs.pick [(3, 3), (1, 1)] rfl), o5⟩
   ·clear h30 hk hs
    intro fu34 a w hI0
    rw [hI33] at hI0
    obtain ⟨u17, u14, u15, u16, A20, p21, k18, hi, hk, hs, o19⟩ := hI0
    obtain ⟨x35, H, h36⟩ := loop_round hi
    try dsimp only at H
    unfold spec_l00Src_bytes.s0 at H
    apply wp_seq_k; intro K37 hK37
    apply wp_seq_k; intro K38 hK38
    apply wp_region_lit
    refine sm _ rfl hk rfl rfl rfl fun a hk => ?_
    refine sm _ rfl hk rfl rfl rfl fun a hk => ?_
    refine sv (.bool (decide (u14 < x1))) hk rfl rfl rfl fun a hk => ?_
    show wpList _ _ _ [] _ _
    refine wpList_nil ?_
    refine hK38 _ _ ?_
    have hs := hs.pick [(3, 3), (1, 1)] rfl
    rcases cond_some H with ⟨c39, H⟩ | ⟨c39, H⟩
    ·have hk := hk.lit 10 c39 rfl
     refine cnd_true hk rfl rfl ?_
     refine wp_skip ?_
     refine hK37 _ _ ?_
     apply wp_seq_k; intro K40 hK40
     refine wp_block ?_
     apply wp_region_lit
     refine sm _ rfl hk rfl rfl rfl fun a hk => ?_
     refine sm _ rfl hk rfl rfl rfl fun a hk => ?_
     obtain ⟨y41, h42, H⟩ := bind_some H
     refine sc rfl en134 hk rfl rfl rfl (spec_l00Src_next_t _ b0_ (⟨x0.code, u15, u16⟩ : S_l00Src) A0_0 p0_0 _ v0_0 (hs.hasD (k := 2) rfl) 256 ((hs.hand [(1, 1)] rfl).dpick [(2, 2)] rfl) _ h42) ?_
     rintro _ w ⟨rfl, hG⟩ a hk
     have hs := hs.back [(1, 1)] rfl hG [1] rfl
     refine scn rfl hk rfl rfl rfl un5 un3 fun a hk => ?_
     refine sbs (L := (Lay.int .u8)) (pv := [(0, (.int .u8 (IntKind.wrap .u8 y41.1)))]) (xs := [(IntKind.wrap .u8 y41.1)]) (ess := [[.int .u8 (IntKind.wrap .u8 y41.1)]]) 5 hs rfl hk rfl rfl rfl un55 (bs5_1 (IntKind.wrap .u8 y41.1)) (AllOwn.cons0 ⟨rfl, rfl⟩ AllOwn.nil) rfl rfl rfl fun b43 k44 w a hk o45 hs => ?_
     rcases ite_some H with ⟨c46, H⟩ | ⟨_, H⟩
     rotate_left
     ·cases H
     refine sap 3 (xs := u17) (ys := [(IntKind.wrap .u8 y41.1)]) (flat_flat : ((Lay.int .u8)).Flat) hs rfl o19 o45.view (hs.hasG (k := 5) rfl) rfl hk rfl rfl rfl rfl rfl rfl un55 mk5 rfl rfl rfl c46 fun A47 p48 k49 w a hk o50 hs => ?_
     refine sa _ rfl hk rfl rfl rfl fun a hk => ?_
     show wpList _ _ _ [] _ _
     refine wpList_nil ?_
     refine hK40 _ _ ?_
     apply wp_region_lit
     refine sm _ rfl hk rfl rfl rfl fun a hk => ?_
     refine sv (.int .i64 (w64 (u14 + 1))) hk rfl rfl rfl fun a hk => ?_
     refine sa _ rfl hk rfl rfl rfl fun a hk => ?_
     show wpList _ _ _ [] _ _
     refine wpList_nil ?_
     obtain rfl := Option.some.inj H
     obtain ⟨m51, hmm51, h36⟩ := h36
     show ∃ n', n' < _ ∧ I33 n' _ _
     refine ⟨m51, hmm51, ?_⟩
     rw [hI33]
     exact ⟨(u17 ++ ([(IntKind.wrap .u8 y41.1)])), (w64 (u14 + 1)), y41.2.1, y41.2.2, A47, p48, _, h36, (hk.c 0 rfl (hk.c 1 rfl (hk.c 5 rfl (hk.c 6 rfl hk.k)))), (hs.pick [(3, 3), (1, 1)] rfl), o50⟩
    ·have hk := hk.lit 10 c39 rfl
     refine cnd_false hk rfl rfl ?_
     refine wp_exit ?_
     obtain rfl := Option.some.inj H
     show R32 _ _
     rw [hR32]
     exact ⟨u17, u15, u16, A20, p21, _, h36.symm, (hk.c 0 rfl (hk.c 5 rfl hk.k)), (hs.pick [(3, 3), (1, 1)] rfl), o19⟩
  ·intro a w hR0
   rw [hR32] at hR0
   obtain ⟨u22, u27, u28, A25, p26, k23, rfl, hk, hs, o24⟩ := hR0
   have H := HL31
   try dsimp only at H
   refine hK6 _ _ ?_
   have hs := hs.pick [(3, 3), (1, 1)] rfl
   apply wp_seq_k; intro K52 hK52
   apply wp_region_lit
   refine sm _ rfl hk rfl rfl rfl fun a hk => ?_
   refine sbt (xs := u22) rfl hk rfl rfl rfl rfl un55 un5 un9 o24.view (hs.hasG (k := 3) rfl) fun a hk => ?_
   refine sa _ rfl hk rfl rfl rfl fun a hk => ?_
   show wpList _ _ _ [] _ _
   refine wpList_nil ?_
   refine hK52 _ _ ?_
   refine wp_ret ?_
   obtain rfl := Option.some.inj H
   exact fin hk _ [(.string (strOfNums u22))] rfl ⟨rfl, trivial⟩ ⟨rfl, (hs.pick [(0, 1)] rfl).dnil⟩

noncomputable def spec_l05Own.f (x0 : S_Device) : Option (S_Device) :=
  (if ([] : List ByteArray).length + x0.Sure.length ≤ 1073741824 then (if ([] : List S_Io).length + x0.Unsure.length ≤ 1073741824 then (some (⟨(([] : List ByteArray) ++ x0.Sure), (([] : List S_Io) ++ x0.Unsure)⟩ : S_Device)) else none) else none)
set_option maxRecDepth 100000 in
set_option maxHeartbeats 0 in
theorem spec_l05Own_t (w0 : World) (x0 : S_Device) (A0_0 : Option Addr) (p0_0 : Nat) (k0_0 : Chunk) (v0_0 : View Lay.str A0_0 p0_0 x0.Sure k0_0) (w0_0 : Has w0 k0_0) (A0_1 : Option Addr) (p0_1 : Nat) (k0_1 : Chunk) (v0_1 : View L_Io A0_1 p0_1 x0.Unsure k0_1) (w0_1 : Has w0 k0_1) (r : S_Device) (H : spec_l05Own.f x0 = some r) :
    Calls Try.prog 105 #[.agg #[.slice A0_0 x0.Sure.length p0_0, .slice A0_1 x0.Unsure.length p0_1]] w0 (Ret (fun v w => ∃ (A0 : Option Addr) (p0 : Nat) (k0 : Chunk), ∃ (A1 : Option Addr) (p1 : Nat) (k1 : Chunk), v = .agg #[.slice A0 r.Sure.length p0, .slice A1 r.Unsure.length p1] ∧ Own Lay.str 9 A0 p0 r.Sure k0 ∧ Own L_Io 129 A1 p1 r.Unsure k1 ∧ Sat [] w0 w [] [(0, k0), (1, k1)])) := by
  have hs : Sat [] w0 w0 [(1, k0_0), (2, k0_1)] [] := Sat.init w0 [(1, k0_0), (2, k0_1)] [] (by simp only [List.mem_cons, List.not_mem_nil, or_false]; rintro x (rfl | rfl) <;> assumption) (by simp) List.nodup_nil (by simp [blks])
  unfold spec_l05Own.f at H
  refine enter Try.func105 rfl Try.ntmps105 rfl fun a hk => ?_
  apply wp_seq_k; intro K1 hK1
  apply wp_region_lit
  refine sbx 3 hs rfl hk rfl rfl rfl rfl fun b2 w a hk hs => ?_
  refine salx 4 hs rfl hk rfl rfl ze67 rfl fun b3 w a hk hs => ?_
  show wpList _ _ _ [] _ _
  refine wpList_nil ?_
  refine hK1 _ _ ?_
  apply wp_seq_k; intro K4 hK4
  rcases ite_some H with ⟨c_r5_3_1, H⟩ | ⟨_, H⟩
  rotate_left
  ·cases H
  rcases ite_some H with ⟨c_r5_7_1, H⟩ | ⟨_, H⟩
  rotate_left
  ·cases H
  obtain ⟨R6, hR6⟩ : ∃ R : Act → World → Prop, R = fun a w => ∃ (A_r5_3_2 : Option Addr) (p_r5_3_3 : Nat) (A_r5_7_2 : Option Addr) (p_r5_7_3 : Nat) (k_r5_3_4 : Chunk) (k_r5_7_4 : Chunk), Kn [(2, (.pointer (some ⟨b3, 0, none⟩)))] 12 a ∧ Sat [] w0 w [(1, k0_0), (2, k0_1)] [(4, [(b3, .cells #[.slice A_r5_3_2 (([] : List ByteArray) ++ x0.Sure).length p_r5_3_3, .slice A_r5_7_2 (([] : List S_Io) ++ x0.Unsure).length p_r5_7_3] 67 (0, 0))]), (105001, k_r5_3_4), (105081, k_r5_7_4)] ∧ Own Lay.str 9 A_r5_3_2 p_r5_3_3 (([] : List ByteArray) ++ x0.Sure) k_r5_3_4 ∧ Own L_Io 129 A_r5_7_2 p_r5_7_3 (([] : List S_Io) ++ x0.Unsure) k_r5_7_4 := ⟨_, rfl⟩
  refine wp_cutq R6 ?_ ?_
  ·skip
   refine wp_region_tree (.q 1 (.q 2 (.q 5 (.q 6 (.alt 0 (.alt 3 (.alt 4 (.alt 7 (.alt 8 (.last 9) .stop) .stop) .stop) (.alt 4 (.alt 3 (.alt 7 (.alt 8 (.last 9) .stop) .stop) .stop) .stop)) (.alt 4 (.alt 0 (.alt 3 (.alt 7 (.alt 8 (.last 9) .stop) .stop) .stop) .stop) .stop)))))) mo (by kernel_rfl) (hs.pick [(4, 4), (3, 3)] rfl) fun _ => ?_
   have hs := hs.drew
   refine tqst (.pointer (some ⟨b2, 0, none⟩)) hk rfl rfl rfl rfl (fun w hs => sf ⟨b2, 0, none⟩ rfl hk rfl rfl rfl fd67_0 rfl fun a hk => qe hk) fun a hk => ?_
   refine tqst (.slice A0_0 x0.Sure.length p0_0) hk rfl rfl rfl rfl (fun w hs => sl rfl hk rfl rfl rfl ag64 (box_cell hs (k := 3) rfl rfl) fun a hk => qe hk) fun a hk => ?_
   refine tqst (.pointer (some ⟨b2, 1, none⟩)) hk rfl rfl rfl rfl (fun w hs => sf ⟨b2, 1, none⟩ rfl hk rfl rfl rfl fd67_1 rfl fun a hk => qe hk) fun a hk => ?_
   refine tqst (.slice A0_1 x0.Unsure.length p0_1) hk rfl rfl rfl rfl (fun w hs => sl rfl hk rfl rfl rfl ag65 (box_cell hs (k := 3) rfl rfl) fun a hk => qe hk) fun a hk => ?_
   refine tsst hk rfl rfl (fun K_r5_0 hK_r5_0 w hF => ?_) ?_
   ·skip
    have hs := hs.f hF
    refine sbs0 105001 Lay.str hs rfl hk rfl rfl un64 sz9 fun b_r5_0_1 k_r5_0_2 w a hk o_r5_0_3 hs => ?_
    refine se (hs.pick [(4, 4), (3, 3)] rfl) hk (hK_r5_0 _ _ ?_)
    refine tsst hk rfl rfl (fun K_r5_3 hK_r5_3 w hF => ?_) ?_
    ·skip
     have hs := hs.f hF
     refine sap 105001 (xs := ([] : List ByteArray)) (ys := x0.Sure) (flat_flat : (Lay.str).Flat) hs rfl o_r5_0_3 v0_0 (hs.hasD (k := 1) rfl) rfl hk rfl rfl rfl rfl rfl rfl un64 mk9 rfl rfl rfl c_r5_3_1 fun A_r5_3_2 p_r5_3_3 k_r5_3_4 w a hk o_r5_3_5 hs => ?_
     refine se (hs.pick [(4, 4), (3, 3)] rfl) hk (hK_r5_3 _ _ ?_)
     refine tsst hk rfl rfl (fun K_r5_4 hK_r5_4 w hF => ?_) wt_stop
     have hs := hs.f hF
     refine sbs0 105081 L_Io hs rfl hk rfl rfl un65 sz129 fun b_r5_4_1 k_r5_4_2 w a hk o_r5_4_3 hs => ?_
     refine se (hs.pick [(4, 4), (3, 3)] rfl) hk (hK_r5_4 _ _ ?_)
     refine tsst hk rfl rfl (fun K_r5_7 hK_r5_7 w hF => ?_) wt_stop
     have hs := hs.f hF
     refine sap 105081 (xs := ([] : List S_Io)) (ys := x0.Unsure) (flat_flat : (L_Io).Flat) hs rfl o_r5_4_3 v0_1 (hs.hasD (k := 2) rfl) rfl hk rfl rfl rfl rfl rfl rfl un65 mk129 rfl rfl rfl c_r5_7_1 fun A_r5_7_2 p_r5_7_3 k_r5_7_4 w a hk o_r5_7_5 hs => ?_
     refine se (hs.pick [(4, 4), (3, 3)] rfl) hk (hK_r5_7 _ _ ?_)
     refine tsst hk rfl rfl (fun K_r5_8 hK_r5_8 w hF => ?_) wt_stop
     have hs := hs.f hF
     refine sbd (pv := [(0, (.slice A_r5_3_2 (([] : List ByteArray) ++ x0.Sure).length p_r5_3_3)), (1, (.slice A_r5_7_2 (([] : List S_Io) ++ x0.Unsure).length p_r5_7_3))]) rfl hk rfl rfl rfl (bd67_2 A_r5_3_2 ((([] : List ByteArray) ++ x0.Sure).length) p_r5_3_3 A_r5_7_2 ((([] : List S_Io) ++ x0.Unsure).length) p_r5_7_3) fun a hk => ?_
     refine se (hs.pick [(4, 4), (3, 3)] rfl) hk (hK_r5_8 _ _ ?_)
     refine tlst hk rfl rfl fun K_r5_9 hK_r5_9 w hF => ?_
     have hs := hs.f hF
     refine ssw 4 hs rfl rfl hk rfl rfl rfl rfl sz67 (by simp [Value.oneCell']) rfl fun w a hk hs => ?_
     refine se trivial hk (hK_r5_9 _ _ fun w hF => ?_)
     have hs := hs.f hF
     show R6 _ _
     rw [hR6]
     exact ⟨A_r5_3_2, p_r5_3_3, A_r5_7_2, p_r5_7_3, k_r5_3_4, k_r5_7_4, (hk.c 2 rfl hk.k), (hs.pick [(4, 4), (105001, 105001), (105081, 105081)] rfl), o_r5_3_5, o_r5_7_5⟩
    refine tsst hk rfl rfl (fun K_r5_4 hK_r5_4 w hF => ?_) wt_stop
    have hs := hs.f hF
    refine sbs0 105081 L_Io hs rfl hk rfl rfl un65 sz129 fun b_r5_4_1 k_r5_4_2 w a hk o_r5_4_3 hs => ?_
    refine se (hs.pick [(4, 4), (3, 3)] rfl) hk (hK_r5_4 _ _ ?_)
    refine tsst hk rfl rfl (fun K_r5_3 hK_r5_3 w hF => ?_) wt_stop
    have hs := hs.f hF
    refine sap 105001 (xs := ([] : List ByteArray)) (ys := x0.Sure) (flat_flat : (Lay.str).Flat) hs rfl o_r5_0_3 v0_0 (hs.hasD (k := 1) rfl) rfl hk rfl rfl rfl rfl rfl rfl un64 mk9 rfl rfl rfl c_r5_3_1 fun A_r5_3_2 p_r5_3_3 k_r5_3_4 w a hk o_r5_3_5 hs => ?_
    refine se (hs.pick [(4, 4), (3, 3)] rfl) hk (hK_r5_3 _ _ ?_)
    refine tsst hk rfl rfl (fun K_r5_7 hK_r5_7 w hF => ?_) wt_stop
    have hs := hs.f hF
    refine sap 105081 (xs := ([] : List S_Io)) (ys := x0.Unsure) (flat_flat : (L_Io).Flat) hs rfl o_r5_4_3 v0_1 (hs.hasD (k := 2) rfl) rfl hk rfl rfl rfl rfl rfl rfl un65 mk129 rfl rfl rfl c_r5_7_1 fun A_r5_7_2 p_r5_7_3 k_r5_7_4 w a hk o_r5_7_5 hs => ?_
    refine se (hs.pick [(4, 4), (3, 3)] rfl) hk (hK_r5_7 _ _ ?_)
    refine tsst hk rfl rfl (fun K_r5_8 hK_r5_8 w hF => ?_) wt_stop
    have hs := hs.f hF
    refine sbd (pv := [(0, (.slice A_r5_3_2 (([] : List ByteArray) ++ x0.Sure).length p_r5_3_3)), (1, (.slice A_r5_7_2 (([] : List S_Io) ++ x0.Unsure).length p_r5_7_3))]) rfl hk rfl rfl rfl (bd67_2 A_r5_3_2 ((([] : List ByteArray) ++ x0.Sure).length) p_r5_3_3 A_r5_7_2 ((([] : List S_Io) ++ x0.Unsure).length) p_r5_7_3) fun a hk => ?_
    refine se (hs.pick [(4, 4), (3, 3)] rfl) hk (hK_r5_8 _ _ ?_)
    refine tlst hk rfl rfl fun K_r5_9 hK_r5_9 w hF => ?_
    have hs := hs.f hF
    refine ssw 4 hs rfl rfl hk rfl rfl rfl rfl sz67 (by simp [Value.oneCell']) rfl fun w a hk hs => ?_
    refine se trivial hk (hK_r5_9 _ _ fun w hF => ?_)
    have hs := hs.f hF
    show R6 _ _
    rw [hR6]
    exact ⟨A_r5_3_2, p_r5_3_3, A_r5_7_2, p_r5_7_3, k_r5_3_4, k_r5_7_4, (hk.c 2 rfl hk.k), (hs.pick [(4, 4), (105001, 105001), (105081, 105081)] rfl), o_r5_3_5, o_r5_7_5⟩
   refine tsst hk rfl rfl (fun K_r5_4 hK_r5_4 w hF => ?_) wt_stop
   have hs := hs.f hF
   refine sbs0 105081 L_Io hs rfl hk rfl rfl un65 sz129 fun b_r5_4_1 k_r5_4_2 w a hk o_r5_4_3 hs => ?_
   refine se (hs.pick [(4, 4), (3, 3)] rfl) hk (hK_r5_4 _ _ ?_)
   refine tsst hk rfl rfl (fun K_r5_0 hK_r5_0 w hF => ?_) wt_stop
   have hs := hs.f hF
   refine sbs0 105001 Lay.str hs rfl hk rfl rfl un64 sz9 fun b_r5_0_1 k_r5_0_2 w a hk o_r5_0_3 hs => ?_
   refine se (hs.pick [(4, 4), (3, 3)] rfl) hk (hK_r5_0 _ _ ?_)
   refine tsst hk rfl rfl (fun K_r5_3 hK_r5_3 w hF => ?_) wt_stop
   have hs := hs.f hF
   refine sap 105001 (xs := ([] : List ByteArray)) (ys := x0.Sure) (flat_flat : (Lay.str).Flat) hs rfl o_r5_0_3 v0_0 (hs.hasD (k := 1) rfl) rfl hk rfl rfl rfl rfl rfl rfl un64 mk9 rfl rfl rfl c_r5_3_1 fun A_r5_3_2 p_r5_3_3 k_r5_3_4 w a hk o_r5_3_5 hs => ?_
   refine se (hs.pick [(4, 4), (3, 3)] rfl) hk (hK_r5_3 _ _ ?_)
   refine tsst hk rfl rfl (fun K_r5_7 hK_r5_7 w hF => ?_) wt_stop
   have hs := hs.f hF
   refine sap 105081 (xs := ([] : List S_Io)) (ys := x0.Unsure) (flat_flat : (L_Io).Flat) hs rfl o_r5_4_3 v0_1 (hs.hasD (k := 2) rfl) rfl hk rfl rfl rfl rfl rfl rfl un65 mk129 rfl rfl rfl c_r5_7_1 fun A_r5_7_2 p_r5_7_3 k_r5_7_4 w a hk o_r5_7_5 hs => ?_
   refine se (hs.pick [(4, 4), (3, 3)] rfl) hk (hK_r5_7 _ _ ?_)
   refine tsst hk rfl rfl (fun K_r5_8 hK_r5_8 w hF => ?_) wt_stop
   have hs := hs.f hF
   refine sbd (pv := [(0, (.slice A_r5_3_2 (([] : List ByteArray) ++ x0.Sure).length p_r5_3_3)), (1, (.slice A_r5_7_2 (([] : List S_Io) ++ x0.Unsure).length p_r5_7_3))]) rfl hk rfl rfl rfl (bd67_2 A_r5_3_2 ((([] : List ByteArray) ++ x0.Sure).length) p_r5_3_3 A_r5_7_2 ((([] : List S_Io) ++ x0.Unsure).length) p_r5_7_3) fun a hk => ?_
   refine se (hs.pick [(4, 4), (3, 3)] rfl) hk (hK_r5_8 _ _ ?_)
   refine tlst hk rfl rfl fun K_r5_9 hK_r5_9 w hF => ?_
   have hs := hs.f hF
   refine ssw 4 hs rfl rfl hk rfl rfl rfl rfl sz67 (by simp [Value.oneCell']) rfl fun w a hk hs => ?_
   refine se trivial hk (hK_r5_9 _ _ fun w hF => ?_)
   have hs := hs.f hF
   show R6 _ _
   rw [hR6]
   exact ⟨A_r5_3_2, p_r5_3_3, A_r5_7_2, p_r5_7_3, k_r5_3_4, k_r5_7_4, (hk.c 2 rfl hk.k), (hs.pick [(4, 4), (105001, 105001), (105081, 105081)] rfl), o_r5_3_5, o_r5_7_5⟩
  ·intro a w hR0
   rw [hR6] at hR0
   obtain ⟨A_r5_3_2, p_r5_3_3, A_r5_7_2, p_r5_7_3, k_r5_3_4, k_r5_7_4, hk, hs, o_r5_3_5, o_r5_7_5⟩ := hR0
   refine hK4 _ _ ?_
   refine wp_ret ?_
   obtain rfl := Option.some.inj H
   exact fin hk _ [(.agg #[.slice A_r5_3_2 (([] : List ByteArray) ++ x0.Sure).length p_r5_3_3, .slice A_r5_7_2 (([] : List S_Io) ++ x0.Unsure).length p_r5_7_3])] rfl ⟨⟨_, rfl, run_loadN ag67 sz67 (box_cells hs (k := 4) rfl)⟩, trivial⟩ ⟨A_r5_3_2, p_r5_3_3, _, A_r5_7_2, p_r5_7_3, _, rfl, o_r5_3_5, o_r5_7_5, (hs.pick [(0, 105001), (1, 105081)] rfl).dnil⟩

noncomputable def spec_NewDevice.f  : Option (S_Device) :=
  (if 0 ≤ (40 : Int) ∧ (40 : Int) ≤ 1073741824 then (some (⟨(List.replicate ((40 : Int)).toNat ByteArray.empty), ([] : List S_Io)⟩ : S_Device)) else none)
set_option maxRecDepth 100000 in
set_option maxHeartbeats 0 in
theorem spec_NewDevice_t (w0 : World)  (r : S_Device) (H : spec_NewDevice.f  = some r) :
    Calls Try.prog 139 #[] w0 (Ret (fun v w => ∃ (A0 : Option Addr) (p0 : Nat) (k0 : Chunk), ∃ (A1 : Option Addr) (p1 : Nat) (k1 : Chunk), v = .agg #[.slice A0 r.Sure.length p0, .slice A1 r.Unsure.length p1] ∧ Own Lay.str 9 A0 p0 r.Sure k0 ∧ Own L_Io 129 A1 p1 r.Unsure k1 ∧ Sat [] w0 w [] [(0, k0), (1, k1)])) := by
  have hs : Sat [] w0 w0 [] [] := Sat.init w0 [] [] (by simp) (by simp) List.nodup_nil (by simp [blks])
  unfold spec_NewDevice.f at H
  refine enter Try.func139 rfl Try.ntmps139 rfl fun a hk => ?_
  apply wp_seq_k; intro K1 hK1
  apply wp_region_lit
  refine salx 1 hs rfl hk rfl rfl ze67 rfl fun b2 w a hk hs => ?_
  show wpList _ _ _ [] _ _
  refine wpList_nil ?_
  refine hK1 _ _ ?_
  apply wp_seq_k; intro K3 hK3
  apply wp_region_lit
  rcases ite_some H with ⟨c4, H⟩ | ⟨_, H⟩
  rotate_left
  ·cases H
  refine smk 2 Lay.str hs rfl hk rfl rfl rfl rfl un64 mk9 lz9 rfl rfl c4.1 c4.2 fun b5 k6 w a hk o7 hs => ?_
  have lh8 : (List.replicate ((40 : Int)).toNat ByteArray.empty).length = ((40 : Int)).toNat := List.length_replicate
  refine sbs0 3 L_Io hs rfl hk rfl rfl un65 sz129 fun b9 k10 w a hk o11 hs => ?_
  refine sbd (pv := [(0, (.slice (some ⟨b5, 0, none⟩) (((40 : Int)).toNat) (((40 : Int)).toNat))), (1, (.slice (some ⟨b9, 0, none⟩) 0 0))]) rfl hk rfl rfl rfl (bd67_2 (some ⟨b5, 0, none⟩) (((40 : Int)).toNat) (((40 : Int)).toNat) (some ⟨b9, 0, none⟩) 0 0) fun a hk => ?_
  refine ssw 1 hs rfl rfl hk rfl rfl rfl rfl sz67 (by simp [Value.oneCell']) rfl fun w a hk hs => ?_
  show wpList _ _ _ [] _ _
  refine wpList_nil ?_
  refine hK3 _ _ ?_
  refine wp_ret ?_
  obtain rfl := Option.some.inj H
  exact fin hk _ [(.agg #[.slice (some ⟨b5, 0, none⟩) (((40 : Int)).toNat) (((40 : Int)).toNat), .slice (some ⟨b9, 0, none⟩) 0 0])] rfl ⟨⟨_, rfl, run_loadN ag67 sz67 (box_cells hs (k := 1) rfl)⟩, trivial⟩ ⟨(some ⟨b5, 0, none⟩), (((40 : Int)).toNat), _, (some ⟨b9, 0, none⟩), 0, _, (by first | (rw [lh8]; done) | (rw [lh8]; rfl)), o7, o11, (hs.pick [(0, 2), (1, 3)] rfl).dnil⟩

noncomputable def spec_l05Write.f (x0 : S_Device) (x1 : Int) (x2 : ByteArray) : Option (S_Device) :=
  (if ([] : List S_Io).length + x0.Unsure.length ≤ 1073741824 then (if (([] : List S_Io) ++ x0.Unsure).length + ([(⟨x1, x2⟩ : S_Io)]).length ≤ 1073741824 then (some (⟨x0.Sure, ((([] : List S_Io) ++ x0.Unsure) ++ ([(⟨x1, x2⟩ : S_Io)]))⟩ : S_Device)) else none) else none)
set_option maxRecDepth 100000 in
set_option maxHeartbeats 0 in
theorem spec_l05Write_t (w0 : World) (x0 : S_Device) (A0_0 : Option Addr) (p0_0 : Nat) (k0_0 : Chunk) (v0_0 : View Lay.str A0_0 p0_0 x0.Sure k0_0) (w0_0 : Has w0 k0_0) (A0_1 : Option Addr) (p0_1 : Nat) (k0_1 : Chunk) (v0_1 : View L_Io A0_1 p0_1 x0.Unsure k0_1) (w0_1 : Has w0 k0_1) (x1 : Int) (x2 : ByteArray) (r : S_Device) (H : spec_l05Write.f x0 x1 x2 = some r) :
    Calls Try.prog 140 #[.agg #[.slice A0_0 x0.Sure.length p0_0, .slice A0_1 x0.Unsure.length p0_1], .int .i64 x1, .string x2] w0 (Ret (fun v w => ∃ (A0 : Option Addr) (p0 : Nat), ∃ (A1 : Option Addr) (p1 : Nat) (k1 : Chunk), ∃ (kS : Chunk), v = .agg #[.slice A0 r.Sure.length p0, .slice A1 r.Unsure.length p1] ∧ View Lay.str A0 p0 r.Sure (k0_0 ++ kS) ∧ Own L_Io 129 A1 p1 r.Unsure k1 ∧ Sat [] w0 w [] [(0, k1), (1, kS)])) := by
  have hs : Sat [] w0 w0 [(1, k0_0), (2, k0_1)] [] := Sat.init w0 [(1, k0_0), (2, k0_1)] [] (by simp only [List.mem_cons, List.not_mem_nil, or_false]; rintro x (rfl | rfl) <;> assumption) (by simp) List.nodup_nil (by simp [blks])
  unfold spec_l05Write.f at H
  refine enter Try.func140 rfl Try.ntmps140 rfl fun a hk => ?_
  apply wp_seq_k; intro K1 hK1
  apply wp_region_lit
  refine sbx 3 hs rfl hk rfl rfl rfl rfl fun b2 w a hk hs => ?_
  refine salx 4 hs rfl hk rfl rfl ze67 rfl fun b3 w a hk hs => ?_
  show wpList _ _ _ [] _ _
  refine wpList_nil ?_
  refine hK1 _ _ ?_
  apply wp_seq_k; intro K4 hK4
  apply wp_region_lit
  refine sbs0 5 L_Io hs rfl hk rfl rfl un65 sz129 fun b5 k6 w a hk o7 hs => ?_
  refine sf ⟨b2, 1, none⟩ rfl hk rfl rfl rfl fd67_1 rfl fun a hk => ?_
  refine sl rfl hk rfl rfl rfl ag65 (box_cell hs (k := 3) rfl rfl) fun a hk => ?_
  rcases ite_some H with ⟨c8, H⟩ | ⟨_, H⟩
  rotate_left
  ·cases H
  refine sap 5 (xs := ([] : List S_Io)) (ys := x0.Unsure) (flat_flat : (L_Io).Flat) hs rfl o7 v0_1 (hs.hasD (k := 2) rfl) rfl hk rfl rfl rfl rfl rfl rfl un65 mk129 rfl rfl rfl c8 fun A9 p10 k11 w a hk o12 hs => ?_
  refine sm _ rfl hk rfl rfl rfl fun a hk => ?_
  refine sm _ rfl hk rfl rfl rfl fun a hk => ?_
  refine sbd (pv := [(0, (.int .i64 x1)), (1, (.string x2))]) rfl hk rfl rfl rfl (bd129_3 x1 x2) fun a hk => ?_
  refine sbs (L := L_Io) (pv := [(0, (.agg #[.int .i64 x1, .string x2]))]) (xs := [(⟨x1, x2⟩ : S_Io)]) (ess := [[.int .i64 x1, .string x2]]) 6 hs rfl hk rfl rfl rfl un65 (bs129_4 x1 x2) (AllOwn.cons0 ⟨rfl, rfl⟩ AllOwn.nil) rfl rfl rfl fun b13 k14 w a hk o15 hs => ?_
  rcases ite_some H with ⟨c16, H⟩ | ⟨_, H⟩
  rotate_left
  ·cases H
  refine sap 5 (xs := (([] : List S_Io) ++ x0.Unsure)) (ys := [(⟨x1, x2⟩ : S_Io)]) (flat_flat : (L_Io).Flat) hs rfl o12 o15.view (hs.hasG (k := 6) rfl) rfl hk rfl rfl rfl rfl rfl rfl un65 mk129 rfl rfl rfl c16 fun A17 p18 k19 w a hk o20 hs => ?_
  refine sf ⟨b2, 1, none⟩ rfl hk rfl rfl rfl fd67_1 rfl fun a hk => ?_
  refine ssx (cs' := #[.slice A0_0 x0.Sure.length p0_0, .slice A17 ((([] : List S_Io) ++ x0.Unsure) ++ ([(⟨x1, x2⟩ : S_Io)])).length p18]) 3 hs rfl rfl hk rfl rfl rfl rfl sz65 rfl rfl rfl rfl fun w a hk hs => ?_
  show wpList _ _ _ [] _ _
  refine wpList_nil ?_
  refine hK4 _ _ ?_
  apply wp_seq_k; intro K21 hK21
  apply wp_region_lit
  refine sln [.slice A0_0 x0.Sure.length p0_0, .slice A17 ((([] : List S_Io) ++ x0.Unsure) ++ ([(⟨x1, x2⟩ : S_Io)])).length p18] rfl hk rfl rfl rfl ag67 sz67 (box_cells hs (k := 3) rfl) fun a hk => ?_
  refine ssw 4 hs rfl rfl hk rfl rfl rfl rfl sz67 (by simp [Value.oneCell']) rfl fun w a hk hs => ?_
  show wpList _ _ _ [] _ _
  refine wpList_nil ?_
  refine hK21 _ _ ?_
  refine wp_ret ?_
  obtain rfl := Option.some.inj H
  exact fin hk _ [(.agg #[.slice A0_0 x0.Sure.length p0_0, .slice A17 ((([] : List S_Io) ++ x0.Unsure) ++ ([(⟨x1, x2⟩ : S_Io)])).length p18])] rfl ⟨⟨_, rfl, run_loadN ag67 sz67 (box_cells hs (k := 4) rfl)⟩, trivial⟩ ⟨A0_0, p0_0, A17, p18, _, _, rfl, (v0_0).sub (Sub.l _ (Sub.refl _)), o20, ((hs.addNil 3000).pick [(0, 5), (1, 3000)] rfl).dnil⟩

noncomputable def spec_l00Src_chance.f (x0 : S_l00Src) (x1 : Int) : Option (Bool × Int × Int) :=
  ((spec_l00Src_next.f x0 x1).bind fun y3 => (some ((y3.1 == (w64 (x1 - 1))), y3.2.1, y3.2.2)))
set_option maxRecDepth 100000 in
set_option maxHeartbeats 0 in
theorem spec_l00Src_chance_t (w0 : World) (b0_ : Nat) (x0 : S_l00Src) (A0_0 : Option Addr) (p0_0 : Nat) (k0_0 : Chunk) (v0_0 : View (Lay.int .u8) A0_0 p0_0 x0.code k0_0) (w0_0 : Has w0 k0_0) (x1 : Int) (hs0 : Sat (blks [(1, [(b0_, .cells #[.slice A0_0 x0.code.length p0_0, .int .i64 x0.at_, .int .i64 x0.seed] 159 (0, 0))])]) w0 w0 [(2, k0_0)] [(1, [(b0_, .cells #[.slice A0_0 x0.code.length p0_0, .int .i64 x0.at_, .int .i64 x0.seed] 159 (0, 0))])]) (r : Bool × Int × Int) (H : spec_l00Src_chance.f x0 x1 = some r) :
    Calls Try.prog 141 #[.pointer (some ⟨b0_, 0, none⟩), .int .i64 x1] w0 (Ret (fun v w => v = .bool r.1 ∧ Sat (blks [(1, [(b0_, .cells #[.slice A0_0 x0.code.length p0_0, .int .i64 x0.at_, .int .i64 x0.seed] 159 (0, 0))])]) w0 w [] [(0, [(b0_, .cells #[.slice A0_0 x0.code.length p0_0, .int .i64 r.2.1, .int .i64 r.2.2] 159 (0, 0))])])) := by
  have hs := hs0
  unfold spec_l00Src_chance.f at H
  refine enter Try.func141 rfl Try.ntmps141 rfl fun a hk => ?_
  apply wp_seq_k; intro K1 hK1
  apply wp_region_lit
  refine sa _ rfl hk rfl rfl rfl fun a hk => ?_
  show wpList _ _ _ [] _ _
  refine wpList_nil ?_
  refine hK1 _ _ ?_
  apply wp_seq_k; intro K2 hK2
  apply wp_region_lit
  refine sm _ rfl hk rfl rfl rfl fun a hk => ?_
  refine sm _ rfl hk rfl rfl rfl fun a hk => ?_
  obtain ⟨y3, h4, H⟩ := bind_some H
  refine sc rfl en134 hk rfl rfl rfl (spec_l00Src_next_t _ b0_ x0 A0_0 p0_0 _ v0_0 (hs.hasD (k := 2) rfl) x1 ((hs.hand [(1, 1)] rfl).dpick [(2, 2)] rfl) _ h4) ?_
  rintro _ w ⟨rfl, hG⟩ a hk
  have hs := hs.back [(1, 1)] rfl hG [1] rfl
  refine sm _ rfl hk rfl rfl rfl fun a hk => ?_
  refine sv (.int .i64 (w64 (x1 - 1))) hk rfl rfl rfl fun a hk => ?_
  refine sv (.bool (y3.1 == (w64 (x1 - 1)))) hk rfl rfl rfl fun a hk => ?_
  refine sa _ rfl hk rfl rfl rfl fun a hk => ?_
  show wpList _ _ _ [] _ _
  refine wpList_nil ?_
  refine hK2 _ _ ?_
  refine wp_ret ?_
  obtain rfl := Option.some.inj H
  exact fin hk _ [(.bool (y3.1 == (w64 (x1 - 1))))] rfl ⟨rfl, trivial⟩ ⟨rfl, (hs.pick [(0, 1)] rfl).dnil⟩

noncomputable def spec_l05Sync.s0 (x0 : S_Device) (u21 : Int) (u22 : List ByteArray) : Option ((Int × (List ByteArray)) ⊕ Ex ((List ByteArray)) (S_Device)) :=
  (bif (decide (u21 < (x0.Unsure.length : Int))) then (if 0 ≤ u21 ∧ u21 < (x0.Unsure.length : Int) then (if 0 ≤ u21 ∧ u21 < (x0.Unsure.length : Int) then (if 0 ≤ ((x0.Unsure.getD u21.toNat z_Io).At) ∧ ((x0.Unsure.getD u21.toNat z_Io).At) < ((([] : List ByteArray) ++ x0.Sure).length : Int) then (some (.inl ((w64 (u21 + 1)), (u22.set ((x0.Unsure.getD u21.toNat z_Io).At).toNat ((x0.Unsure.getD u21.toNat z_Io).Data))))) else none) else none) else none) else (some (.inr (.out u22))))
noncomputable def spec_l05Sync.f (x0 : S_Device) : Option (S_Device) :=
  (if ([] : List ByteArray).length + x0.Sure.length ≤ 1073741824 then ((loopO (fun s => spec_l05Sync.s0 x0 s.1 s.2) (0, (([] : List ByteArray) ++ x0.Sure))).bind fun o => match o with | .out u26 => (some (⟨u26, ([] : List S_Io)⟩ : S_Device)) | .ret r => (some r)) else none)
set_option maxRecDepth 100000 in
set_option maxHeartbeats 0 in
theorem spec_l05Sync_t (w0 : World) (x0 : S_Device) (A0_0 : Option Addr) (p0_0 : Nat) (k0_0 : Chunk) (v0_0 : View Lay.str A0_0 p0_0 x0.Sure k0_0) (w0_0 : Has w0 k0_0) (A0_1 : Option Addr) (p0_1 : Nat) (k0_1 : Chunk) (v0_1 : View L_Io A0_1 p0_1 x0.Unsure k0_1) (w0_1 : Has w0 k0_1) (r : S_Device) (H : spec_l05Sync.f x0 = some r) :
    Calls Try.prog 142 #[.agg #[.slice A0_0 x0.Sure.length p0_0, .slice A0_1 x0.Unsure.length p0_1]] w0 (Ret (fun v w => ∃ (A0 : Option Addr) (p0 : Nat) (k0 : Chunk), ∃ (A1 : Option Addr) (p1 : Nat) (k1 : Chunk), v = .agg #[.slice A0 r.Sure.length p0, .slice A1 r.Unsure.length p1] ∧ Own Lay.str 9 A0 p0 r.Sure k0 ∧ Own L_Io 129 A1 p1 r.Unsure k1 ∧ Sat [] w0 w [] [(0, k0), (1, k1)])) := by
  have hs : Sat [] w0 w0 [(1, k0_0), (2, k0_1)] [] := Sat.init w0 [(1, k0_0), (2, k0_1)] [] (by simp only [List.mem_cons, List.not_mem_nil, or_false]; rintro x (rfl | rfl) <;> assumption) (by simp) List.nodup_nil (by simp [blks])
  unfold spec_l05Sync.f at H
  refine enter Try.func142 rfl Try.ntmps142 rfl fun a hk => ?_
  apply wp_seq_k; intro K1 hK1
  apply wp_region_lit
  refine sbx 3 hs rfl hk rfl rfl rfl rfl fun b2 w a hk hs => ?_
  refine salx 4 hs rfl hk rfl rfl ze67 rfl fun b3 w a hk hs => ?_
  show wpList _ _ _ [] _ _
  refine wpList_nil ?_
  refine hK1 _ _ ?_
  apply wp_seq_k; intro K4 hK4
  apply wp_region_lit
  refine sbs0 5 Lay.str hs rfl hk rfl rfl un64 sz9 fun b5 k6 w a hk o7 hs => ?_
  refine sf ⟨b2, 0, none⟩ rfl hk rfl rfl rfl fd67_0 rfl fun a hk => ?_
  refine sl rfl hk rfl rfl rfl ag64 (box_cell hs (k := 3) rfl rfl) fun a hk => ?_
  rcases ite_some H with ⟨c8, H⟩ | ⟨_, H⟩
  rotate_left
  ·cases H
  refine sap 5 (xs := ([] : List ByteArray)) (ys := x0.Sure) (flat_flat : (Lay.str).Flat) hs rfl o7 v0_0 (hs.hasD (k := 1) rfl) rfl hk rfl rfl rfl rfl rfl rfl un64 mk9 rfl rfl rfl c8 fun A9 p10 k11 w a hk o12 hs => ?_
  refine sbs0 6 L_Io hs rfl hk rfl rfl un65 sz129 fun b13 k14 w a hk o15 hs => ?_
  refine sbd (pv := [(0, (.slice A9 (([] : List ByteArray) ++ x0.Sure).length p10)), (1, (.slice (some ⟨b13, 0, none⟩) 0 0))]) rfl hk rfl rfl rfl (bd67_2 A9 ((([] : List ByteArray) ++ x0.Sure).length) p10 (some ⟨b13, 0, none⟩) 0 0) fun a hk => ?_
  refine salx 7 hs rfl hk rfl rfl ze67 rfl fun b16 w a hk hs => ?_
  refine ssw 7 hs rfl rfl hk rfl rfl rfl rfl sz67 (by simp [Value.oneCell']) rfl fun w a hk hs => ?_
  show wpList _ _ _ [] _ _
  refine wpList_nil ?_
  refine hK4 _ _ ?_
  apply wp_seq_k; intro K17 hK17
  apply wp_seq_k; intro K18 hK18
  apply wp_region_lit
  refine sa _ rfl hk rfl rfl rfl fun a hk => ?_
  show wpList _ _ _ [] _ _
  refine wpList_nil ?_
  refine hK18 _ _ ?_
  obtain ⟨o30, h31, HL32⟩ := bind_some H
  clear H
  obtain ⟨R33, hR33⟩ : ∃ R : Act → World → Prop, R = fun a w => ∃ (u26 : List ByteArray) (k27 : Chunk), o30 = .out u26 ∧ Kn [(2, (.pointer (some ⟨b3, 0, none⟩))), (3, (.pointer (some ⟨b16, 0, none⟩)))] 34 a ∧ Sat [] w0 w [(1, k0_0), (2, k0_1)] [(4, [(b3, .cells #[.slice none 0 0, .slice none 0 0] 67 (0, 0))]), (7, [(b16, .cells #[.slice A9 (([] : List ByteArray) ++ x0.Sure).length p10, .slice (some ⟨b13, 0, none⟩) 0 0] 67 (0, 0))]), (5, k27), (6, k14)] ∧ Own Lay.str 9 A9 p10 u26 k27 ∧ u26.length = (([] : List ByteArray) ++ x0.Sure).length := ⟨_, rfl⟩
  refine wp_cutq R33 ?_ ?_
  ·refine wp_block ?_
   obtain ⟨fu35, h31⟩ := loopO_some h31
   obtain ⟨I34, hI34⟩ : ∃ I : Nat → Act → World → Prop, I = fun fu a w => ∃ (u21 : Int) (u22 : List ByteArray) (k23 : Chunk), loopN (fun s => spec_l05Sync.s0 x0 s.1 s.2) fu (u21, u22) = some o30 ∧ Kn [(1, (.pointer (some ⟨b2, 0, none⟩))), (2, (.pointer (some ⟨b3, 0, none⟩))), (3, (.pointer (some ⟨b16, 0, none⟩))), (4, (.int .i64 u21))] 34 a ∧ Sat [] w0 w [(1, k0_0), (2, k0_1)] [(3, [(b2, .cells #[.slice A0_0 x0.Sure.length p0_0, .slice A0_1 x0.Unsure.length p0_1] 67 (0, 0))]), (4, [(b3, .cells #[.slice none 0 0, .slice none 0 0] 67 (0, 0))]), (7, [(b16, .cells #[.slice A9 (([] : List ByteArray) ++ x0.Sure).length p10, .slice (some ⟨b13, 0, none⟩) 0 0] 67 (0, 0))]), (5, k23), (6, k14)] ∧ Own Lay.str 9 A9 p10 u22 k23 ∧ u22.length = (([] : List ByteArray) ++ x0.Sure).length := ⟨_, rfl⟩
   refine wp_loop_ghost I34 fu35 ?_ ?_
   ·rw [hI34]
    exact ⟨0, (([] : List ByteArray) ++ x0.Sure), _, h31, (hk.c 1 rfl (hk.c 2 rfl (hk.c 3 rfl (hk.c 4 rfl hk.k)))), (hs.pick [(3, 3), (4, 4), (7, 7), (5, 5), (6, 6)] rfl), o12, rfl⟩
   ·clear h31 hk hs
    intro fu35 a w hI0
    rw [hI34] at hI0
    obtain ⟨u21, u22, k23, hi, hk, hs, o24, lh25⟩ := hI0
    obtain ⟨x36, H, h37⟩ := loop_round hi
    try dsimp only at H
    unfold spec_l05Sync.s0 at H
    apply wp_seq_k; intro K38 hK38
    apply wp_seq_k; intro K39 hK39
    apply wp_region_lit
    refine sm _ rfl hk rfl rfl rfl fun a hk => ?_
    refine sf ⟨b2, 1, none⟩ rfl hk rfl rfl rfl fd67_1 rfl fun a hk => ?_
    refine sl rfl hk rfl rfl rfl ag65 (box_cell hs (k := 3) rfl rfl) fun a hk => ?_
    refine sle rfl hk rfl rfl rfl un65 fun a hk => ?_
    refine sv (.bool (decide (u21 < (x0.Unsure.length : Int)))) hk rfl rfl rfl fun a hk => ?_
    show wpList _ _ _ [] _ _
    refine wpList_nil ?_
    refine hK39 _ _ ?_
    have hs := hs.pick [(3, 3), (4, 4), (7, 7), (5, 5), (6, 6)] rfl
    rcases cond_some H with ⟨c40, H⟩ | ⟨c40, H⟩
    ·have hk := hk.lit 15 c40 rfl
     refine cnd_true hk rfl rfl ?_
     refine wp_skip ?_
     refine hK38 _ _ ?_
     apply wp_seq_k; intro K41 hK41
     refine wp_block ?_
     refine wp_region_tree (.q 0 (.q 1 (.q 2 (.q 3 (.q 4 (.q 5 (.q 6 (.q 7 (.q 8 (.q 9 (.alt 10 (.alt 11 (.alt 12 (.alt 13 (.alt 14 (.last 15) .stop) .stop) .stop) .stop) .stop))))))))))) mo (by kernel_rfl) (hs.pick [(3, 3), (4, 4), (7, 7), (5, 5), (6, 6)] rfl) fun _ => ?_
     have hs := hs.drew
     refine tqst (.pointer (some ⟨b16, 0, none⟩)) hk rfl rfl rfl rfl (fun w hs => sf ⟨b16, 0, none⟩ rfl hk rfl rfl rfl fd67_0 rfl fun a hk => qe hk) fun a hk => ?_
     refine tqst (.slice A9 (([] : List ByteArray) ++ x0.Sure).length p10) hk rfl rfl rfl rfl (fun w hs => sl rfl hk rfl rfl rfl ag64 (box_cell hs (k := 7) rfl rfl) fun a hk => qe hk) fun a hk => ?_
     refine tqst (.pointer (some ⟨b2, 1, none⟩)) hk rfl rfl rfl rfl (fun w hs => sf ⟨b2, 1, none⟩ rfl hk rfl rfl rfl fd67_1 rfl fun a hk => qe hk) fun a hk => ?_
     refine tqst (.slice A0_1 x0.Unsure.length p0_1) hk rfl rfl rfl rfl (fun w hs => sl rfl hk rfl rfl rfl ag65 (box_cell hs (k := 3) rfl rfl) fun a hk => qe hk) fun a hk => ?_
     refine tqst (.int .i64 u21) hk rfl rfl rfl rfl (fun w hs => sm _ rfl hk rfl rfl rfl fun a hk => qe hk) fun a hk => ?_
     rcases ite_some H with ⟨c43, H⟩ | ⟨_, H⟩
     rotate_left
     ·cases H
     obtain ⟨b44, q45, hAc43⟩ := (v0_1).some_ u21 c43.1 c43.2
     refine tqst (.pointer (some (padd A0_1 (u21.toNat * 2)))) hk rfl rfl rfl rfl (fun w hs => si rfl hk rfl rfl rfl rfl un65 sz129 c43.1 c43.2 hAc43 fun a hk => qe hk) fun a hk => ?_
     refine tqst (.pointer (some (padd A0_1 (u21.toNat * 2)))) hk rfl rfl rfl rfl (fun w hs => sf (padd A0_1 (u21.toNat * 2 + 0)) rfl hk rfl rfl rfl fd129_0 (padd_add _ _ _) fun a hk => qe hk) fun a hk => ?_
     obtain ⟨_, rfl, e46⟩ := (v0_1).at_ z_Io u21 c43.1 c43.2
     refine tqst (.int .i64 ((x0.Unsure.getD u21.toNat z_Io).At)) hk rfl rfl rfl rfl (fun w hs => sl (v := (.int .i64 ((x0.Unsure.getD u21.toNat z_Io).At))) rfl hk rfl rfl rfl ag3 ((e46 0 _ rfl).cell (hs.hasD (k := 2) rfl)) fun a hk => qe hk) fun a hk => ?_
     refine tqst (.pointer (some ⟨b2, 1, none⟩)) hk rfl rfl rfl rfl (fun w hs => sf ⟨b2, 1, none⟩ rfl hk rfl rfl rfl fd67_1 rfl fun a hk => qe hk) fun a hk => ?_
     refine tqst (.slice A0_1 x0.Unsure.length p0_1) hk rfl rfl rfl rfl (fun w hs => sl rfl hk rfl rfl rfl ag65 (box_cell hs (k := 3) rfl rfl) fun a hk => qe hk) fun a hk => ?_
     refine tsst hk rfl rfl (fun K_r42_10 hK_r42_10 w hF => ?_) wt_stop
     have hs := hs.f hF
     refine sm _ rfl hk rfl rfl rfl fun a hk => ?_
     refine se (hs.pick [(3, 3), (4, 4), (7, 7), (5, 5), (6, 6)] rfl) hk (hK_r42_10 _ _ ?_)
     refine tsst hk rfl rfl (fun K_r42_11 hK_r42_11 w hF => ?_) wt_stop
     have hs := hs.f hF
     rcases ite_some H with ⟨c47, H⟩ | ⟨_, H⟩
     rotate_left
     ·cases H
     obtain ⟨b48, q49, hAc47⟩ := (v0_1).some_ u21 c47.1 c47.2
     refine si rfl hk rfl rfl rfl rfl un65 sz129 c47.1 c47.2 hAc47 fun a hk => ?_
     refine se (hs.pick [(3, 3), (4, 4), (7, 7), (5, 5), (6, 6)] rfl) hk (hK_r42_11 _ _ ?_)
     refine tsst hk rfl rfl (fun K_r42_12 hK_r42_12 w hF => ?_) wt_stop
     have hs := hs.f hF
     refine sf (padd A0_1 (u21.toNat * 2 + 1)) rfl hk rfl rfl rfl fd129_1 (padd_add _ _ _) fun a hk => ?_
     refine se (hs.pick [(3, 3), (4, 4), (7, 7), (5, 5), (6, 6)] rfl) hk (hK_r42_12 _ _ ?_)
     refine tsst hk rfl rfl (fun K_r42_13 hK_r42_13 w hF => ?_) wt_stop
     have hs := hs.f hF
     obtain ⟨_, rfl, e50⟩ := (v0_1).at_ z_Io u21 c47.1 c47.2
     refine sl (v := (.string ((x0.Unsure.getD u21.toNat z_Io).Data))) rfl hk rfl rfl rfl ag9 ((e50 1 _ rfl).cell (hs.hasD (k := 2) rfl)) fun a hk => ?_
     refine se (hs.pick [(3, 3), (4, 4), (7, 7), (5, 5), (6, 6)] rfl) hk (hK_r42_13 _ _ ?_)
     refine tsst hk rfl rfl (fun K_r42_14 hK_r42_14 w hF => ?_) wt_stop
     have hs := hs.f hF
     rcases ite_some H with ⟨c51, H⟩ | ⟨_, H⟩
     rotate_left
     ·cases H
     obtain ⟨b52, q53, hAc51⟩ := (o24.view).some_ ((x0.Unsure.getD u21.toNat z_Io).At) c51.1 (by rw [lh25]; exact c51.2)
     refine si rfl hk rfl rfl rfl rfl un64 sz9 c51.1 c51.2 hAc51 fun a hk => ?_
     refine se (hs.pick [(3, 3), (4, 4), (7, 7), (5, 5), (6, 6)] rfl) hk (hK_r42_14 _ _ ?_)
     refine tlst hk rfl rfl fun K_r42_15 hK_r42_15 w hF => ?_
     have hs := hs.f hF
     refine so (j := 0) 5 ByteArray.empty ((x0.Unsure.getD u21.toNat z_Io).Data) hs rfl o24 c51.1 (by rw [lh25]; exact c51.2) rfl hk rfl rfl rfl rfl rfl sz9 (by simp [Value.cells, Value.oneCell']) (Nat.le_of_ble_eq_true rfl) (fun _ _ h => ⟨by rw [h.1]; rfl, h.2⟩) fun k54 w a hk o55 hs => ?_
     have lh56 : (u22.set ((x0.Unsure.getD u21.toNat z_Io).At).toNat ((x0.Unsure.getD u21.toNat z_Io).Data)).length = (([] : List ByteArray) ++ x0.Sure).length := by rw [List.length_set]; exact lh25
     refine se trivial hk (hK_r42_15 _ _ fun w hF => ?_)
     have hs := hs.f hF
     refine hK41 _ _ ?_
     apply wp_region_lit
     refine sm _ rfl hk rfl rfl rfl fun a hk => ?_
     refine sv (.int .i64 (w64 (u21 + 1))) hk rfl rfl rfl fun a hk => ?_
     refine sa _ rfl hk rfl rfl rfl fun a hk => ?_
     show wpList _ _ _ [] _ _
     refine wpList_nil ?_
     obtain rfl := Option.some.inj H
     obtain ⟨m57, hmm57, h37⟩ := h37
     show ∃ n', n' < _ ∧ I34 n' _ _
     refine ⟨m57, hmm57, ?_⟩
     rw [hI34]
     exact ⟨(w64 (u21 + 1)), (u22.set ((x0.Unsure.getD u21.toNat z_Io).At).toNat ((x0.Unsure.getD u21.toNat z_Io).Data)), _, h37, (hk.c 1 rfl (hk.c 2 rfl (hk.c 3 rfl (hk.c 4 rfl hk.k)))), (hs.pick [(3, 3), (4, 4), (7, 7), (5, 5), (6, 6)] rfl), o55, lh56⟩
    ·have hk := hk.lit 15 c40 rfl
     refine cnd_false hk rfl rfl ?_
     refine wp_exit ?_
     obtain rfl := Option.some.inj H
     show R33 _ _
     rw [hR33]
     exact ⟨u22, _, h37.symm, (hk.c 2 rfl (hk.c 3 rfl hk.k)), (hs.pick [(4, 4), (7, 7), (5, 5), (6, 6)] rfl), o24, lh25⟩
  ·intro a w hR0
   rw [hR33] at hR0
   obtain ⟨u26, k27, rfl, hk, hs, o28, lh29⟩ := hR0
   have H := HL32
   try dsimp only at H
   refine hK17 _ _ ?_
   have hs := hs.pick [(4, 4), (7, 7), (5, 5), (6, 6)] rfl
   apply wp_seq_k; intro K58 hK58
   apply wp_region_lit
   refine sln [.slice A9 (([] : List ByteArray) ++ x0.Sure).length p10, .slice (some ⟨b13, 0, none⟩) 0 0] rfl hk rfl rfl rfl ag67 sz67 (box_cells hs (k := 7) rfl) fun a hk => ?_
   refine ssw 4 hs rfl rfl hk rfl rfl rfl rfl sz67 (by simp [Value.oneCell']) rfl fun w a hk hs => ?_
   show wpList _ _ _ [] _ _
   refine wpList_nil ?_
   refine hK58 _ _ ?_
   refine wp_ret ?_
   obtain rfl := Option.some.inj H
   exact fin hk _ [(.agg #[.slice A9 (([] : List ByteArray) ++ x0.Sure).length p10, .slice (some ⟨b13, 0, none⟩) 0 0])] rfl ⟨⟨_, rfl, run_loadN ag67 sz67 (box_cells hs (k := 4) rfl)⟩, trivial⟩ ⟨A9, p10, _, (some ⟨b13, 0, none⟩), 0, _, (by first | (rw [lh29]; done) | (rw [lh29]; rfl)), o28, o15, (hs.pick [(0, 5), (1, 6)] rfl).dnil⟩

noncomputable def spec_l00Src_device.s0 (x0 : S_l00Src) (u21 : Int) (u22 : Int) (u23 : Int) (u24 : List ByteArray) (u32 : List S_Io) : Option ((Int × Int × Int × (List ByteArray) × (List S_Io)) ⊕ Ex (Int × Int × (List ByteArray) × (List S_Io)) (S_Device × Int × Int)) :=
  (bif (decide (u21 > 0)) then ((spec_l00Src_next.f (⟨x0.code, u22, u23⟩ : S_l00Src) 6).bind fun y62 => ((spec_l00Src_next.f (⟨x0.code, y62.2.1, y62.2.2⟩ : S_l00Src) 7).bind fun y64 => ((spec_l00Src_bytes.f (⟨x0.code, y64.2.1, y64.2.2⟩ : S_l00Src) y64.1).bind fun y66 => ((spec_l05Write.f (⟨u24, u32⟩ : S_Device) y62.1 y66.1).bind fun y68 => ((spec_l00Src_chance.f (⟨x0.code, y66.2.1, y66.2.2⟩ : S_l00Src) 4).bind fun y79 => (((bif y79.1 then ((spec_l05Sync.f y68).bind fun y96 => (some (y96.Sure, y96.Unsure))) else (some (y68.Sure, y68.Unsure))) : Option ((List ByteArray) × (List S_Io))).bind fun o => match o with | (u82, u86) => (some (.inl ((w64 (u21 - 1)), y79.2.1, y79.2.2, u82, u86))))))))) else (some (.inr (.out (u22, u23, u24, u32)))))
noncomputable def spec_l00Src_device.f (x0 : S_l00Src) : Option (S_Device × Int × Int) :=
  ((spec_NewDevice.f).bind fun y4 => ((spec_l00Src_next.f x0 9).bind fun y17 => ((loopO (fun s => spec_l00Src_device.s0 x0 s.1 s.2.1 s.2.2.1 s.2.2.2.1 s.2.2.2.2) (y17.1, y17.2.1, y17.2.2, y4.Sure, y4.Unsure)).bind fun o => match o with | .out (u37, u38, u39, u43) => ((spec_l05Own.f (⟨u39, u43⟩ : S_Device)).bind fun y108 => (some (y108, u37, u38))) | .ret r => (some r))))
set_option maxRecDepth 100000 in
set_option maxHeartbeats 0 in
theorem spec_l00Src_device_t (w0 : World) (b0_ : Nat) (x0 : S_l00Src) (A0_0 : Option Addr) (p0_0 : Nat) (k0_0 : Chunk) (v0_0 : View (Lay.int .u8) A0_0 p0_0 x0.code k0_0) (w0_0 : Has w0 k0_0) (hs0 : Sat (blks [(1, [(b0_, .cells #[.slice A0_0 x0.code.length p0_0, .int .i64 x0.at_, .int .i64 x0.seed] 159 (0, 0))])]) w0 w0 [(2, k0_0)] [(1, [(b0_, .cells #[.slice A0_0 x0.code.length p0_0, .int .i64 x0.at_, .int .i64 x0.seed] 159 (0, 0))])]) (r : S_Device × Int × Int) (H : spec_l00Src_device.f x0 = some r) :
    Calls Try.prog 84 #[.pointer (some ⟨b0_, 0, none⟩)] w0 (Ret (fun v w => ∃ (A0 : Option Addr) (p0 : Nat) (k0 : Chunk), ∃ (A1 : Option Addr) (p1 : Nat) (k1 : Chunk), v = .agg #[.slice A0 r.1.Sure.length p0, .slice A1 r.1.Unsure.length p1] ∧ Own Lay.str 9 A0 p0 r.1.Sure k0 ∧ Own L_Io 129 A1 p1 r.1.Unsure k1 ∧ Sat (blks [(1, [(b0_, .cells #[.slice A0_0 x0.code.length p0_0, .int .i64 x0.at_, .int .i64 x0.seed] 159 (0, 0))])]) w0 w [] [(0, k0), (1, k1), (2, [(b0_, .cells #[.slice A0_0 x0.code.length p0_0, .int .i64 r.2.1, .int .i64 r.2.2] 159 (0, 0))])])) := by
  have hs := hs0
  unfold spec_l00Src_device.f at H
  refine enter Try.func84 rfl Try.ntmps84 rfl fun a hk => ?_
  apply wp_seq_k; intro K1 hK1
  apply wp_region_lit
  refine salx 3 hs rfl hk rfl rfl ze67 rfl fun b2 w a hk hs => ?_
  show wpList _ _ _ [] _ _
  refine wpList_nil ?_
  refine hK1 _ _ ?_
  apply wp_seq_k; intro K3 hK3
  apply wp_region_lit
  obtain ⟨y4, h5, H⟩ := bind_some H
  refine sc rfl en139 hk rfl rfl rfl (spec_NewDevice_t _ _ h5) ?_
  rintro _ w ⟨A6, p7, k8, A10, p11, k12, rfl, o9, o13, hG⟩ a hk
  have hs := hs.call0k hG [4, 5] rfl
  refine salx 6 hs rfl hk rfl rfl ze67 rfl fun b14 w a hk hs => ?_
  refine ssw 6 hs rfl rfl hk rfl rfl rfl rfl sz67 (by simp [Value.oneCell']) rfl fun w a hk hs => ?_
  show wpList _ _ _ [] _ _
  refine wpList_nil ?_
  refine hK3 _ _ ?_
  apply wp_seq_k; intro K15 hK15
  apply wp_seq_k; intro K16 hK16
  apply wp_region_lit
  refine sm _ rfl hk rfl rfl rfl fun a hk => ?_
  obtain ⟨y17, h18, H⟩ := bind_some H
  refine sc rfl en134 hk rfl rfl rfl (spec_l00Src_next_t _ b0_ x0 A0_0 p0_0 _ v0_0 (hs.hasD (k := 2) rfl) 9 ((hs.hand [(1, 1)] rfl).dpick [(2, 2)] rfl) _ h18) ?_
  rintro _ w ⟨rfl, hG⟩ a hk
  have hs := hs.back [(1, 1)] rfl hG [1] rfl
  refine sa _ rfl hk rfl rfl rfl fun a hk => ?_
  show wpList _ _ _ [] _ _
  refine wpList_nil ?_
  refine hK16 _ _ ?_
  obtain ⟨o48, h49, HL50⟩ := bind_some H
  clear H
  obtain ⟨R51, hR51⟩ : ∃ R : Act → World → Prop, R = fun a w => ∃ (u37 : Int) (u38 : Int) (u39 : List ByteArray) (u43 : List S_Io) (A40 : Option Addr) (p41 : Nat) (A46 : Option Addr) (p47 : Nat) (k44 : Chunk) (kf20 : Chunk), o48 = .out (u37, u38, u39, u43) ∧ Kn [(0, (.pointer (some ⟨b0_, 0, none⟩))), (2, (.pointer (some ⟨b2, 0, none⟩))), (3, (.pointer (some ⟨b14, 0, none⟩)))] 26 a ∧ Sat (blks [(1, [(b0_, .cells #[.slice A0_0 x0.code.length p0_0, .int .i64 x0.at_, .int .i64 x0.seed] 159 (0, 0))])]) w0 w [(2, k0_0)] [(1, [(b0_, .cells #[.slice A0_0 x0.code.length p0_0, .int .i64 u37, .int .i64 u38] 159 (0, 0))]), (3, [(b2, .cells #[.slice none 0 0, .slice none 0 0] 67 (0, 0))]), (6, [(b14, .cells #[.slice A40 u39.length p41, .slice A46 u43.length p47] 67 (0, 0))]), (7, kf20), (5, k44)] ∧ View Lay.str A40 p41 u39 (k0_0 ++ kf20) ∧ Own L_Io 129 A46 p47 u43 k44 := ⟨_, rfl⟩
  refine wp_cutq R51 ?_ ?_
  ·refine wp_block ?_
   obtain ⟨fu53, h49⟩ := loopO_some h49
   obtain ⟨I52, hI52⟩ : ∃ I : Nat → Act → World → Prop, I = fun fu a w => ∃ (u21 : Int) (u22 : Int) (u23 : Int) (u24 : List ByteArray) (u32 : List S_Io) (A25 : Option Addr) (p26 : Nat) (A35 : Option Addr) (p36 : Nat) (k33 : Chunk) (kf19 : Chunk), loopN (fun s => spec_l00Src_device.s0 x0 s.1 s.2.1 s.2.2.1 s.2.2.2.1 s.2.2.2.2) fu (u21, u22, u23, u24, u32) = some o48 ∧ Kn [(0, (.pointer (some ⟨b0_, 0, none⟩))), (2, (.pointer (some ⟨b2, 0, none⟩))), (3, (.pointer (some ⟨b14, 0, none⟩))), (4, (.int .i64 u21))] 26 a ∧ Sat (blks [(1, [(b0_, .cells #[.slice A0_0 x0.code.length p0_0, .int .i64 x0.at_, .int .i64 x0.seed] 159 (0, 0))])]) w0 w [(2, k0_0)] [(1, [(b0_, .cells #[.slice A0_0 x0.code.length p0_0, .int .i64 u22, .int .i64 u23] 159 (0, 0))]), (3, [(b2, .cells #[.slice none 0 0, .slice none 0 0] 67 (0, 0))]), (6, [(b14, .cells #[.slice A25 u24.length p26, .slice A35 u32.length p36] 67 (0, 0))]), (7, kf19), (5, k33)] ∧ View Lay.str A25 p26 u24 (k0_0 ++ kf19) ∧ Own L_Io 129 A35 p36 u32 k33 := ⟨_, rfl⟩
   refine wp_loop_ghost I52 fu53 ?_ ?_
   ·rw [hI52]
    exact ⟨y17.1, y17.2.1, y17.2.2, y4.Sure, y4.Unsure, A6, p7, A10, p11, _, _, h49, (hk.c 0 rfl (hk.c 2 rfl (hk.c 3 rfl (hk.c 4 rfl hk.k)))), (hs.pick [(1, 1), (3, 3), (6, 6), (7, 4), (5, 5)] rfl), (o9.view).sub (Sub.r _ (Sub.refl _)), o13⟩
   ·clear h49 hk hs
    intro fu53 a w hI0
    rw [hI52] at hI0
    obtain ⟨u21, u22, u23, u24, u32, A25, p26, A35, p36, k33, kf19, hi, hk, hs, v27, o34⟩ := hI0
    obtain ⟨x54, H, h55⟩ := loop_round hi
    try dsimp only at H
    unfold spec_l00Src_device.s0 at H
    apply wp_seq_k; intro K56 hK56
    apply wp_seq_k; intro K57 hK57
    apply wp_region_lit
    refine sm _ rfl hk rfl rfl rfl fun a hk => ?_
    refine sv (.bool (decide (u21 > 0))) hk rfl rfl rfl fun a hk => ?_
    show wpList _ _ _ [] _ _
    refine wpList_nil ?_
    refine hK57 _ _ ?_
    have hs := hs.pick [(1, 1), (3, 3), (6, 6), (7, 7), (5, 5)] rfl
    rcases cond_some H with ⟨c58, H⟩ | ⟨c58, H⟩
    ·have hk := hk.lit 9 c58 rfl
     refine cnd_true hk rfl rfl ?_
     refine wp_skip ?_
     refine hK56 _ _ ?_
     apply wp_seq_k; intro K59 hK59
     refine wp_block ?_
     apply wp_seq_k; intro K60 hK60
     refine wp_region_tree (.q 0 (.q 1 (.q 3 (.q 4 (.alt 2 (.alt 5 (.alt 6 (.alt 7 (.last 8) .stop) .stop) .stop) .stop))))) mo (by kernel_rfl) (hs.pick [(3, 3), (6, 6), (7, 7), (5, 5)] rfl) fun _ => ?_
     have hs := hs.drew
     refine tqst (.agg #[.slice A25 u24.length p26, .slice A35 u32.length p36]) hk rfl rfl rfl rfl (fun w hs => sln [.slice A25 u24.length p26, .slice A35 u32.length p36] rfl hk rfl rfl rfl ag67 sz67 (box_cells hs (k := 6) rfl) fun a hk => qe hk) fun a hk => ?_
     refine tqst (.pointer (some ⟨b0_, 0, none⟩)) hk rfl rfl rfl rfl (fun w hs => sm _ rfl hk rfl rfl rfl fun a hk => qe hk) fun a hk => ?_
     refine tqst (.pointer (some ⟨b0_, 0, none⟩)) hk rfl rfl rfl rfl (fun w hs => sm _ rfl hk rfl rfl rfl fun a hk => qe hk) fun a hk => ?_
     refine tqst (.pointer (some ⟨b0_, 0, none⟩)) hk rfl rfl rfl rfl (fun w hs => sm _ rfl hk rfl rfl rfl fun a hk => qe hk) fun a hk => ?_
     refine tsst hk rfl rfl (fun K_r61_2 hK_r61_2 w hF => ?_) wt_stop
     have hs := hs.f hF
     obtain ⟨y62, h63, H⟩ := bind_some H
     refine sc rfl en134 hk rfl rfl rfl (spec_l00Src_next_t _ b0_ (⟨x0.code, u22, u23⟩ : S_l00Src) A0_0 p0_0 _ v0_0 (hs.hasD (k := 2) rfl) 6 ((hs.hand [(1, 1)] rfl).dpick [(2, 2)] rfl) _ h63) ?_
     rintro _ w ⟨rfl, hG⟩ a hk
     have hs := hs.back [(1, 1)] rfl hG [1] rfl
     refine se (hs.pick [(3, 3), (6, 6), (7, 7), (5, 5)] rfl) hk (hK_r61_2 _ _ ?_)
     refine tsst hk rfl rfl (fun K_r61_5 hK_r61_5 w hF => ?_) wt_stop
     have hs := hs.f hF
     obtain ⟨y64, h65, H⟩ := bind_some H
     refine sc rfl en134 hk rfl rfl rfl (spec_l00Src_next_t _ b0_ (⟨x0.code, y62.2.1, y62.2.2⟩ : S_l00Src) A0_0 p0_0 _ v0_0 (hs.hasD (k := 2) rfl) 7 ((hs.hand [(1, 1)] rfl).dpick [(2, 2)] rfl) _ h65) ?_
     rintro _ w ⟨rfl, hG⟩ a hk
     have hs := hs.back [(1, 1)] rfl hG [1] rfl
     refine se (hs.pick [(3, 3), (6, 6), (7, 7), (5, 5)] rfl) hk (hK_r61_5 _ _ ?_)
     refine tsst hk rfl rfl (fun K_r61_6 hK_r61_6 w hF => ?_) wt_stop
     have hs := hs.f hF
     obtain ⟨y66, h67, H⟩ := bind_some H
     refine sc rfl en85 hk rfl rfl rfl (spec_l00Src_bytes_t _ b0_ (⟨x0.code, y64.2.1, y64.2.2⟩ : S_l00Src) A0_0 p0_0 _ v0_0 (hs.hasD (k := 2) rfl) y64.1 ((hs.hand [(1, 1)] rfl).dpick [(2, 2)] rfl) _ h67) ?_
     rintro _ w ⟨rfl, hG⟩ a hk
     have hs := hs.back [(1, 1)] rfl hG [1] rfl
     refine se (hs.pick [(3, 3), (6, 6), (7, 7), (5, 5)] rfl) hk (hK_r61_6 _ _ ?_)
     refine tsst hk rfl rfl (fun K_r61_7 hK_r61_7 w hF => ?_) wt_stop
     have hs := hs.f hF
     obtain ⟨y68, h69, H⟩ := bind_some H
     refine sc rfl en140 hk rfl rfl rfl (spec_l05Write_t _ (⟨u24, u32⟩ : S_Device) A25 p26 _ v27 (Has.app (hs.hasD (k := 2) rfl) (hs.hasG (k := 7) rfl)) A35 p36 _ o34.view (hs.hasG (k := 5) rfl) y62.1 y66.1 _ h69) ?_
     rintro _ w ⟨A71, p72, A74, p75, k76, k70, rfl, v73, o77, hG⟩ a hk
     have hs := hs.call0k hG [10, 9] rfl
     refine se (hs.pick [(3, 3), (6, 6), (7, 7), (5, 5)] rfl) hk (hK_r61_7 _ _ ?_)
     refine tlst hk rfl rfl fun K_r61_8 hK_r61_8 w hF => ?_
     have hs := hs.f hF
     refine ssw 6 hs rfl rfl hk rfl rfl rfl rfl sz67 (by simp [Value.oneCell']) rfl fun w a hk hs => ?_
     refine se trivial hk (hK_r61_8 _ _ fun w hF => ?_)
     have hs := hs.f hF
     refine hK60 _ _ ?_
     apply wp_seq_k; intro K78 hK78
     apply wp_region_lit
     refine sm _ rfl hk rfl rfl rfl fun a hk => ?_
     obtain ⟨y79, h80, H⟩ := bind_some H
     refine sc rfl en141 hk rfl rfl rfl (spec_l00Src_chance_t _ b0_ (⟨x0.code, y66.2.1, y66.2.2⟩ : S_l00Src) A0_0 p0_0 _ v0_0 (hs.hasD (k := 2) rfl) 4 ((hs.hand [(1, 1)] rfl).dpick [(2, 2)] rfl) _ h80) ?_
     rintro _ w ⟨rfl, hG⟩ a hk
     have hs := hs.back [(1, 1)] rfl hG [1] rfl
     show wpList _ _ _ [] _ _
     refine wpList_nil ?_
     refine hK78 _ _ ?_
     obtain ⟨o91, h92, HL93⟩ := bind_some H
     clear H
     obtain ⟨R94, hR94⟩ : ∃ R : Act → World → Prop, R = fun a w => ∃ (u82 : List ByteArray) (u86 : List S_Io) (A83 : Option Addr) (p84 : Nat) (A89 : Option Addr) (p90 : Nat) (k87 : Chunk) (kf81 : Chunk), (u82, u86) = o91 ∧ Kn [(0, (.pointer (some ⟨b0_, 0, none⟩))), (2, (.pointer (some ⟨b2, 0, none⟩))), (3, (.pointer (some ⟨b14, 0, none⟩))), (4, (.int .i64 u21))] 26 a ∧ Sat (blks [(1, [(b0_, .cells #[.slice A0_0 x0.code.length p0_0, .int .i64 x0.at_, .int .i64 x0.seed] 159 (0, 0))])]) w0 w [(2, k0_0)] [(1, [(b0_, .cells #[.slice A0_0 x0.code.length p0_0, .int .i64 y79.2.1, .int .i64 y79.2.2] 159 (0, 0))]), (3, [(b2, .cells #[.slice none 0 0, .slice none 0 0] 67 (0, 0))]), (6, [(b14, .cells #[.slice A83 u82.length p84, .slice A89 u86.length p90] 67 (0, 0))]), (7, kf19), (9, k70), (11, kf81), (12, k87)] ∧ View Lay.str A83 p84 u82 (k0_0 ++ (kf19 ++ (k70 ++ kf81))) ∧ Own L_Io 129 A89 p90 u86 k87 := ⟨_, rfl⟩
     refine wp_cutq R94 ?_ ?_
     ·have H := h92
      rcases cond_some H with ⟨c95, H⟩ | ⟨c95, H⟩
      ·have hk := hk.lit 21 c95 rfl
       refine cnd_true hk rfl rfl ?_
       apply wp_region_lit
       refine sln [.slice A71 y68.Sure.length p72, .slice A74 y68.Unsure.length p75] rfl hk rfl rfl rfl ag67 sz67 (box_cells hs (k := 6) rfl) fun a hk => ?_
       obtain ⟨y96, h97, H⟩ := bind_some H
       refine sc rfl en142 hk rfl rfl rfl (spec_l05Sync_t _ y68 A71 p72 _ v73 (Has.app (Has.app (hs.hasD (k := 2) rfl) (hs.hasG (k := 7) rfl)) (hs.hasG (k := 9) rfl)) A74 p75 _ o77.view (hs.hasG (k := 10) rfl) _ h97) ?_
       rintro _ w ⟨A98, p99, k100, A102, p103, k104, rfl, o101, o105, hG⟩ a hk
       have hs := hs.call0k hG [12, 13] rfl
       refine ssw 6 hs rfl rfl hk rfl rfl rfl rfl sz67 (by simp [Value.oneCell']) rfl fun w a hk hs => ?_
       show wpList _ _ _ [] _ _
       refine wpList_nil ?_
       obtain rfl := Option.some.inj H
       show R94 _ _
       rw [hR94]
       exact ⟨y96.Sure, y96.Unsure, A98, p99, A102, p103, _, _, rfl, (hk.c 0 rfl (hk.c 2 rfl (hk.c 3 rfl (hk.c 4 rfl hk.k)))), (hs.pick [(1, 1), (3, 3), (6, 6), (7, 7), (9, 9), (11, 12), (12, 13)] rfl), (o101.view).sub (Sub.r _ (Sub.r _ (Sub.r _ (Sub.refl _)))), o105⟩
      ·have hk := hk.lit 21 c95 rfl
       refine cnd_false hk rfl rfl ?_
       refine wp_skip ?_
       obtain rfl := Option.some.inj H
       show R94 _ _
       rw [hR94]
       exact ⟨y68.Sure, y68.Unsure, A71, p72, A74, p75, _, _, rfl, (hk.c 0 rfl (hk.c 2 rfl (hk.c 3 rfl (hk.c 4 rfl hk.k)))), ((hs.addNil 3011).pick [(1, 1), (3, 3), (6, 6), (7, 7), (9, 9), (11, 3011), (12, 10)] rfl), (v73).sub (Sub.a (Sub.a (Sub.l _ (Sub.refl _)) (Sub.r _ (Sub.l _ (Sub.refl _)))) (Sub.r _ (Sub.r _ (Sub.l _ (Sub.refl _))))), o77⟩
     ·intro a w hR0
      rw [hR94] at hR0
      obtain ⟨u82, u86, A83, p84, A89, p90, k87, kf81, rfl, hk, hs, v85, o88⟩ := hR0
      have H := HL93
      try dsimp only at H
      refine hK59 _ _ ?_
      have hs := hs.pick [(1, 1), (3, 3), (6, 6), (7, 7), (9, 9), (11, 11), (12, 12)] rfl
      apply wp_region_lit
      refine sm _ rfl hk rfl rfl rfl fun a hk => ?_
      refine sv (.int .i64 (w64 (u21 - 1))) hk rfl rfl rfl fun a hk => ?_
      refine sa _ rfl hk rfl rfl rfl fun a hk => ?_
      show wpList _ _ _ [] _ _
      refine wpList_nil ?_
      obtain rfl := Option.some.inj H
      obtain ⟨m106, hmm106, h55⟩ := h55
      show ∃ n', n' < _ ∧ I52 n' _ _
      refine ⟨m106, hmm106, ?_⟩
      rw [hI52]
      exact ⟨(w64 (u21 - 1)), y79.2.1, y79.2.2, u82, u86, A83, p84, A89, p90, _, _, h55, (hk.c 0 rfl (hk.c 2 rfl (hk.c 3 rfl (hk.c 4 rfl hk.k)))), (((hs.join (k := 7) (j := 9) 4014 rfl rfl).join (k := 4014) (j := 11) 4015 rfl rfl).pick [(1, 1), (3, 3), (6, 6), (7, 4015), (5, 12)] rfl), (v85).sub (Sub.a (Sub.l _ (Sub.refl _)) (Sub.a (Sub.r _ (Sub.l _ (Sub.l _ (Sub.refl _)))) (Sub.a (Sub.r _ (Sub.l _ (Sub.r _ (Sub.refl _)))) (Sub.r _ (Sub.r _ (Sub.refl _)))))), o88⟩
    ·have hk := hk.lit 9 c58 rfl
     refine cnd_false hk rfl rfl ?_
     refine wp_exit ?_
     obtain rfl := Option.some.inj H
     show R51 _ _
     rw [hR51]
     exact ⟨u22, u23, u24, u32, A25, p26, A35, p36, _, _, h55.symm, (hk.c 0 rfl (hk.c 2 rfl (hk.c 3 rfl hk.k))), (hs.pick [(1, 1), (3, 3), (6, 6), (7, 7), (5, 5)] rfl), (v27).sub (Sub.refl _), o34⟩
  ·intro a w hR0
   rw [hR51] at hR0
   obtain ⟨u37, u38, u39, u43, A40, p41, A46, p47, k44, kf20, rfl, hk, hs, v42, o45⟩ := hR0
   have H := HL50
   try dsimp only at H
   refine hK15 _ _ ?_
   have hs := hs.pick [(1, 1), (3, 3), (6, 6), (7, 7), (5, 5)] rfl
   apply wp_seq_k; intro K107 hK107
   apply wp_region_lit
   refine sln [.slice A40 u39.length p41, .slice A46 u43.length p47] rfl hk rfl rfl rfl ag67 sz67 (box_cells hs (k := 6) rfl) fun a hk => ?_
   obtain ⟨y108, h109, H⟩ := bind_some H
   refine sc rfl en105 hk rfl rfl rfl (spec_l05Own_t _ (⟨u39, u43⟩ : S_Device) A40 p41 _ v42 (Has.app (hs.hasD (k := 2) rfl) (hs.hasG (k := 7) rfl)) A46 p47 _ o45.view (hs.hasG (k := 5) rfl) _ h109) ?_
   rintro _ w ⟨A110, p111, k112, A114, p115, k116, rfl, o113, o117, hG⟩ a hk
   have hs := hs.call0k hG [16, 17] rfl
   refine ssw 3 hs rfl rfl hk rfl rfl rfl rfl sz67 (by simp [Value.oneCell']) rfl fun w a hk hs => ?_
   show wpList _ _ _ [] _ _
   refine wpList_nil ?_
   refine hK107 _ _ ?_
   refine wp_ret ?_
   obtain rfl := Option.some.inj H
   exact fin hk _ [(.agg #[.slice A110 y108.Sure.length p111, .slice A114 y108.Unsure.length p115])] rfl ⟨⟨_, rfl, run_loadN ag67 sz67 (box_cells hs (k := 3) rfl)⟩, trivial⟩ ⟨A110, p111, _, A114, p115, _, rfl, o113, o117, (hs.pick [(0, 16), (1, 17), (2, 1)] rfl).dnil⟩

noncomputable def spec_DeviceOf.f (l0 : List Int) : Option (S_Device) :=
  ((spec_l00Source.f l0).bind fun y4 => ((spec_l00Src_device.f y4).bind fun y11 => (some y11.1)))
set_option maxRecDepth 100000 in
set_option maxHeartbeats 0 in
theorem spec_DeviceOf_t (w0 : World) (A0_ : Option Addr) (p0_ : Nat) (l0 : List Int) (k0_ : Chunk) (v0_ : View (Lay.int .u8) A0_ p0_ l0 k0_) (w0_ : Has w0 k0_) (r : S_Device) (H : spec_DeviceOf.f l0 = some r) :
    Calls Try.prog 37 #[.slice A0_ l0.length p0_] w0 (Ret (fun v w => ∃ (A0 : Option Addr) (p0 : Nat) (k0 : Chunk), ∃ (A1 : Option Addr) (p1 : Nat) (k1 : Chunk), v = .agg #[.slice A0 r.Sure.length p0, .slice A1 r.Unsure.length p1] ∧ Own Lay.str 9 A0 p0 r.Sure k0 ∧ Own L_Io 129 A1 p1 r.Unsure k1 ∧ Sat [] w0 w [] [(0, k0), (1, k1)])) := by
  have hs : Sat [] w0 w0 [(1, k0_)] [] := Sat.init w0 [(1, k0_)] [] (by simp only [List.mem_cons, List.not_mem_nil, or_false]; rintro x (rfl) <;> assumption) (by simp) List.nodup_nil (by simp [blks])
  unfold spec_DeviceOf.f at H
  refine enter Try.func37 rfl Try.ntmps37 rfl fun a hk => ?_
  apply wp_seq_k; intro K1 hK1
  apply wp_region_lit
  refine salx 2 hs rfl hk rfl rfl ze67 rfl fun b2 w a hk hs => ?_
  show wpList _ _ _ [] _ _
  refine wpList_nil ?_
  refine hK1 _ _ ?_
  apply wp_seq_k; intro K3 hK3
  apply wp_region_lit
  refine sm _ rfl hk rfl rfl rfl fun a hk => ?_
  obtain ⟨y4, h5, H⟩ := bind_some H
  refine sc rfl en79 hk rfl rfl rfl (spec_l00Source_t _ A0_ p0_ l0 _ v0_ (hs.hasD (k := 1) rfl) _ h5) ?_
  rintro _ w ⟨b7, A8, p9, k6, rfl, v10, hG⟩ a hk
  have hs := hs.call0k hG [4, 3] rfl
  obtain ⟨y11, h12, H⟩ := bind_some H
  refine sc rfl en84 hk rfl rfl rfl (spec_l00Src_device_t _ b7 y4 A8 p9 _ v10 (Has.app (hs.hasD (k := 1) rfl) (hs.hasG (k := 3) rfl)) (((hs.hand [(1, 4)] rfl).dcat 2005 (k := 1) (l := 3) rfl rfl).dpick [(2, 2005)] rfl) _ h12) ?_
  rintro _ w ⟨A13, p14, k15, A17, p18, k19, rfl, o16, o20, hG⟩ a hk
  have hs := hs.back [(1, 4)] rfl hG [6, 7, 4] rfl
  refine ssw 2 hs rfl rfl hk rfl rfl rfl rfl sz67 (by simp [Value.oneCell']) rfl fun w a hk hs => ?_
  show wpList _ _ _ [] _ _
  refine wpList_nil ?_
  refine hK3 _ _ ?_
  refine wp_ret ?_
  obtain rfl := Option.some.inj H
  exact fin hk _ [(.agg #[.slice A13 y11.1.Sure.length p14, .slice A17 y11.1.Unsure.length p18])] rfl ⟨⟨_, rfl, run_loadN ag67 sz67 (box_cells hs (k := 2) rfl)⟩, trivial⟩ ⟨A13, p14, _, A17, p18, _, rfl, o16, o20, (hs.pick [(0, 6), (1, 7)] rfl).dnil⟩

noncomputable def spec_BytesOf.f (l0 : List Int) (x1 : Int) : Option (ByteArray) :=
  ((spec_l00Source.f l0).bind fun y3 => ((spec_l00Src_bytes.f y3 x1).bind fun y10 => (some y10.1)))
set_option maxRecDepth 100000 in
set_option maxHeartbeats 0 in
theorem spec_BytesOf_t (w0 : World) (A0_ : Option Addr) (p0_ : Nat) (l0 : List Int) (k0_ : Chunk) (v0_ : View (Lay.int .u8) A0_ p0_ l0 k0_) (w0_ : Has w0 k0_) (x1 : Int) (r : ByteArray) (H : spec_BytesOf.f l0 x1 = some r) :
    Calls Try.prog 38 #[.slice A0_ l0.length p0_, .int .i64 x1] w0 (Ret (fun v w => v = .string r ∧ Sat [] w0 w [] [])) := by
  have hs : Sat [] w0 w0 [(1, k0_)] [] := Sat.init w0 [(1, k0_)] [] (by simp only [List.mem_cons, List.not_mem_nil, or_false]; rintro x (rfl) <;> assumption) (by simp) List.nodup_nil (by simp [blks])
  unfold spec_BytesOf.f at H
  refine enter Try.func38 rfl Try.ntmps38 rfl fun a hk => ?_
  apply wp_seq_k; intro K1 hK1
  apply wp_region_lit
  refine sa _ rfl hk rfl rfl rfl fun a hk => ?_
  show wpList _ _ _ [] _ _
  refine wpList_nil ?_
  refine hK1 _ _ ?_
  apply wp_seq_k; intro K2 hK2
  apply wp_region_lit
  refine sm _ rfl hk rfl rfl rfl fun a hk => ?_
  obtain ⟨y3, h4, H⟩ := bind_some H
  refine sc rfl en79 hk rfl rfl rfl (spec_l00Source_t _ A0_ p0_ l0 _ v0_ (hs.hasD (k := 1) rfl) _ h4) ?_
  rintro _ w ⟨b6, A7, p8, k5, rfl, v9, hG⟩ a hk
  have hs := hs.call0k hG [3, 2] rfl
  refine sm _ rfl hk rfl rfl rfl fun a hk => ?_
  obtain ⟨y10, h11, H⟩ := bind_some H
  refine sc rfl en85 hk rfl rfl rfl (spec_l00Src_bytes_t _ b6 y3 A7 p8 _ v9 (Has.app (hs.hasD (k := 1) rfl) (hs.hasG (k := 2) rfl)) x1 (((hs.hand [(1, 3)] rfl).dcat 2004 (k := 1) (l := 2) rfl rfl).dpick [(2, 2004)] rfl) _ h11) ?_
  rintro _ w ⟨rfl, hG⟩ a hk
  have hs := hs.back [(1, 3)] rfl hG [3] rfl
  refine sa _ rfl hk rfl rfl rfl fun a hk => ?_
  show wpList _ _ _ [] _ _
  refine wpList_nil ?_
  refine hK2 _ _ ?_
  refine wp_ret ?_
  obtain rfl := Option.some.inj H
  exact fin hk _ [(.string y10.1)] rfl ⟨rfl, trivial⟩ ⟨rfl, (hs.pick [] rfl).dnil⟩

noncomputable def impl_isContent.f (x0 : ByteArray) : Option (Bool) :=
  (some (decide ((x0.size : Int) ≤ 700)))
set_option maxRecDepth 100000 in
set_option maxHeartbeats 0 in
theorem impl_isContent_t (w0 : World) (x0 : ByteArray) (r : Bool) (H : impl_isContent.f x0 = some r) :
    Calls Try.prog 88 #[.string x0] w0 (Ret (fun v w => v = .bool r ∧ Sat [] w0 w [] [])) := by
  have hs : Sat [] w0 w0 [] [] := Sat.init w0 [] [] (by simp) (by simp) List.nodup_nil (by simp [blks])
  unfold impl_isContent.f at H
  refine enter Try.func88 rfl Try.ntmps88 rfl fun a hk => ?_
  apply wp_seq_k; intro K1 hK1
  apply wp_region_lit
  refine sa _ rfl hk rfl rfl rfl fun a hk => ?_
  show wpList _ _ _ [] _ _
  refine wpList_nil ?_
  refine hK1 _ _ ?_
  apply wp_seq_k; intro K2 hK2
  apply wp_region_lit
  refine sm _ rfl hk rfl rfl rfl fun a hk => ?_
  refine sles rfl hk rfl rfl rfl un9 fun a hk => ?_
  refine sv (.bool (decide ((x0.size : Int) ≤ 700))) hk rfl rfl rfl fun a hk => ?_
  refine sa _ rfl hk rfl rfl rfl fun a hk => ?_
  show wpList _ _ _ [] _ _
  refine wpList_nil ?_
  refine hK2 _ _ ?_
  refine wp_ret ?_
  obtain rfl := Option.some.inj H
  exact fin hk _ [(.bool (decide ((x0.size : Int) ≤ 700)))] rfl ⟨rfl, trivial⟩ ⟨rfl, (hs.pick [] rfl).dnil⟩

noncomputable def slices_IndexFunc_string_string.s0 (l0 : List ByteArray) (q1 : ByteArray → Option (Bool)) (u6 : Int) : Option ((Int) ⊕ Ex (Unit) (Int)) :=
  (bif (decide (u6 < (l0.length : Int))) then (if 0 ≤ u6 ∧ u6 < (l0.length : Int) then ((q1 (l0.getD u6.toNat ByteArray.empty)).bind fun y25 => (bif y25 then (some (.inr (.ret u6))) else (some (.inl (w64 (u6 + 1)))))) else none) else (some (.inr (.out ()))))
noncomputable def slices_IndexFunc_string_string.f (l0 : List ByteArray) (q1 : ByteArray → Option (Bool)) : Option (Int) :=
  ((loopO (fun s => slices_IndexFunc_string_string.s0 l0 q1 s) 0).bind fun o => match o with | .out _ => (some (-1)) | .ret r => (some r))
set_option maxRecDepth 100000 in
set_option maxHeartbeats 0 in
theorem slices_IndexFunc_string_string_t (w0 : World) (A0_ : Option Addr) (p0_ : Nat) (l0 : List ByteArray) (k0_ : Chunk) (v0_ : View Lay.str A0_ p0_ l0 k0_) (w0_ : Has w0 k0_) (f1_ : FuncId) (c1_ : List Value) (e1_ : Enters Try.prog f1_) (q1 : ByteArray → Option (Bool)) (k1_ : Chunk) (t1_ : ∀ w, Has w k1_ → ∀ (z0 : ByteArray) (r : Bool), q1 z0 = some r → Calls Try.prog f1_ (([.string z0] : List Value) ++ c1_).toArray w (Ret (fun v w2 => v = .bool r ∧ Sat [] w w2 [] []))) (w1_ : Has w0 k1_) (r : Int) (H : slices_IndexFunc_string_string.f l0 q1 = some r) :
    Calls Try.prog 174 #[.slice A0_ l0.length p0_, .func (.func f1_) #[] c1_.toArray] w0 (Ret (fun v w => v = .int .i64 r ∧ Sat [] w0 w [] [])) := by
  have hs : Sat [] w0 w0 [(1, k0_), (2, k1_)] [] := Sat.init w0 [(1, k0_), (2, k1_)] [] (by simp only [List.mem_cons, List.not_mem_nil, or_false]; rintro x (rfl | rfl) <;> assumption) (by simp) List.nodup_nil (by simp [blks])
  unfold slices_IndexFunc_string_string.f at H
  refine enter Try.func174 rfl Try.ntmps174 rfl fun a hk => ?_
  apply wp_seq_k; intro K1 hK1
  apply wp_region_lit
  refine sa _ rfl hk rfl rfl rfl fun a hk => ?_
  show wpList _ _ _ [] _ _
  refine wpList_nil ?_
  refine hK1 _ _ ?_
  apply wp_seq_k; intro K2 hK2
  apply wp_seq_k; intro K3 hK3
  apply wp_region_lit
  refine sm _ rfl hk rfl rfl rfl fun a hk => ?_
  refine sle rfl hk rfl rfl rfl un64 fun a hk => ?_
  refine sm _ rfl hk rfl rfl rfl fun a hk => ?_
  show wpList _ _ _ [] _ _
  refine wpList_nil ?_
  refine hK3 _ _ ?_
  obtain ⟨o7, h8, HL9⟩ := bind_some H
  clear H
  obtain ⟨R10, hR10⟩ : ∃ R : Act → World → Prop, R = fun a w => o7 = .out () ∧ Kn [] 19 a ∧ Sat [] w0 w [(1, k0_), (2, k1_)] [] := ⟨_, rfl⟩
  refine wp_cutq R10 ?_ ?_
  ·refine wp_block ?_
   obtain ⟨fu12, h8⟩ := loopO_some h8
   obtain ⟨I11, hI11⟩ : ∃ I : Nat → Act → World → Prop, I = fun fu a w => ∃ (u6 : Int), loopN (fun s => slices_IndexFunc_string_string.s0 l0 q1 s) fu u6 = some o7 ∧ Kn [(0, (.slice A0_ l0.length p0_)), (1, (.func (.func f1_) #[] c1_.toArray)), (7, (.int .i64 (l0.length : Int))), (8, (.int .i64 u6))] 19 a ∧ Sat [] w0 w [(1, k0_), (2, k1_)] [] := ⟨_, rfl⟩
   refine wp_loop_ghost I11 fu12 ?_ ?_
   ·rw [hI11]
    exact ⟨0, h8, (hk.c 0 rfl (hk.c 1 rfl (hk.c 7 rfl (hk.c 8 rfl hk.k)))), (hs.pick [] rfl)⟩
   ·clear h8 hk hs
    intro fu12 a w hI0
    rw [hI11] at hI0
    obtain ⟨u6, hi, hk, hs⟩ := hI0
    obtain ⟨x13, H, h14⟩ := loop_round hi
    try dsimp only at H
    unfold slices_IndexFunc_string_string.s0 at H
    apply wp_seq_k; intro K15 hK15
    apply wp_region_lit
    refine sv (.bool (decide (u6 < (l0.length : Int)))) hk rfl rfl rfl fun a hk => ?_
    show wpList _ _ _ [] _ _
    refine wpList_nil ?_
    refine hK15 _ _ ?_
    apply wp_seq_k; intro K16 hK16
    rcases cond_some H with ⟨c17, H⟩ | ⟨c17, H⟩
    ·have hk := hk.lit 9 c17 rfl
     refine cnd_true hk rfl rfl ?_
     refine wp_skip ?_
     refine hK16 _ _ ?_
     have hs := hs.pick [] rfl
     apply wp_seq_k; intro K18 hK18
     refine wp_block ?_
     apply wp_seq_k; intro K19 hK19
     apply wp_region_lit
     refine sm _ rfl hk rfl rfl rfl fun a hk => ?_
     refine sa _ rfl hk rfl rfl rfl fun a hk => ?_
     show wpList _ _ _ [] _ _
     refine wpList_nil ?_
     refine hK19 _ _ ?_
     apply wp_seq_k; intro K20 hK20
     apply wp_region_lit
     refine sm _ rfl hk rfl rfl rfl fun a hk => ?_
     refine sm _ rfl hk rfl rfl rfl fun a hk => ?_
     refine sm _ rfl hk rfl rfl rfl fun a hk => ?_
     rcases ite_some H with ⟨c21, H⟩ | ⟨_, H⟩
     rotate_left
     ·cases H
     obtain ⟨b22, q23, hAc21⟩ := (v0_).some_ u6 c21.1 c21.2
     refine si rfl hk rfl rfl rfl rfl un64 sz9 c21.1 c21.2 hAc21 fun a hk => ?_
     obtain ⟨_, rfl, e24⟩ := (v0_).at_ ByteArray.empty u6 c21.1 c21.2
     refine sl (v := (.string (l0.getD u6.toNat ByteArray.empty))) rfl hk rfl rfl rfl ag9 ((e24 0 _ rfl).cell (hs.hasD (k := 1) rfl)) fun a hk => ?_
     obtain ⟨y25, h26, H⟩ := bind_some H
     refine scv (vs := ([(.string (l0.getD u6.toNat ByteArray.empty))] : List Value) ++ c1_) rfl rfl e1_ hk rfl rfl rfl (t1_ _ (hs.hasD (k := 2) rfl) (l0.getD u6.toNat ByteArray.empty) _ h26) ?_
     rintro _ w ⟨rfl, hG⟩ a hk
     have hs := hs.call0 hG
     show wpList _ _ _ [] _ _
     refine wpList_nil ?_
     refine hK20 _ _ ?_
     rcases cond_some H with ⟨c27, H⟩ | ⟨c27, H⟩
     ·have hk := hk.lit 16 c27 rfl
      refine cnd_true hk rfl rfl ?_
      apply wp_seq_k; intro K28 hK28
      apply wp_region_lit
      refine sm _ rfl hk rfl rfl rfl fun a hk => ?_
      refine sa _ rfl hk rfl rfl rfl fun a hk => ?_
      show wpList _ _ _ [] _ _
      refine wpList_nil ?_
      refine hK28 _ _ ?_
      refine wp_ret ?_
      obtain rfl := Option.some.inj H
      have ho7 := h14
      try dsimp only at ho7
      subst ho7
      have H := HL9
      try dsimp only at H
      obtain rfl := Option.some.inj H
      exact fin hk _ [(.int .i64 u6)] rfl ⟨rfl, trivial⟩ ⟨rfl, (hs.pick [] rfl).dnil⟩
     ·have hk := hk.lit 16 c27 rfl
      refine cnd_false hk rfl rfl ?_
      refine wp_skip ?_
      refine hK18 _ _ ?_
      apply wp_region_lit
      refine sv (.int .i64 (w64 (u6 + 1))) hk rfl rfl rfl fun a hk => ?_
      refine sm _ rfl hk rfl rfl rfl fun a hk => ?_
      show wpList _ _ _ [] _ _
      refine wpList_nil ?_
      obtain rfl := Option.some.inj H
      obtain ⟨m29, hmm29, h14⟩ := h14
      show ∃ n', n' < _ ∧ I11 n' _ _
      refine ⟨m29, hmm29, ?_⟩
      rw [hI11]
      exact ⟨(w64 (u6 + 1)), h14, (hk.c 0 rfl (hk.c 1 rfl (hk.c 7 rfl (hk.c 8 rfl hk.k)))), (hs.pick [] rfl)⟩
    ·have hk := hk.lit 9 c17 rfl
     refine cnd_false hk rfl rfl ?_
     refine wp_exit ?_
     obtain rfl := Option.some.inj H
     show R10 _ _
     rw [hR10]
     exact ⟨h14.symm, hk.k, (hs.pick [] rfl)⟩
  ·intro a w hR0
   rw [hR10] at hR0
   obtain ⟨rfl, hk, hs⟩ := hR0
   have H := HL9
   try dsimp only at H
   refine hK2 _ _ ?_
   apply wp_seq_k; intro K30 hK30
   apply wp_region_lit
   refine sa _ rfl hk rfl rfl rfl fun a hk => ?_
   show wpList _ _ _ [] _ _
   refine wpList_nil ?_
   refine hK30 _ _ ?_
   have hs := hs.pick [] rfl
   refine wp_ret ?_
   obtain rfl := Option.some.inj H
   exact fin hk _ [(.int .i64 (-1))] rfl ⟨rfl, trivial⟩ ⟨rfl, (hs.pick [] rfl).dnil⟩

noncomputable def slices_ContainsFunc_string_string.f (l0 : List ByteArray) (q1 : ByteArray → Option (Bool)) : Option (Bool) :=
  ((slices_IndexFunc_string_string.f l0 q1).bind fun y3 => (some (decide (y3 ≥ 0))))
set_option maxRecDepth 100000 in
set_option maxHeartbeats 0 in
theorem slices_ContainsFunc_string_string_t (w0 : World) (A0_ : Option Addr) (p0_ : Nat) (l0 : List ByteArray) (k0_ : Chunk) (v0_ : View Lay.str A0_ p0_ l0 k0_) (w0_ : Has w0 k0_) (f1_ : FuncId) (c1_ : List Value) (e1_ : Enters Try.prog f1_) (q1 : ByteArray → Option (Bool)) (k1_ : Chunk) (t1_ : ∀ w, Has w k1_ → ∀ (z0 : ByteArray) (r : Bool), q1 z0 = some r → Calls Try.prog f1_ (([.string z0] : List Value) ++ c1_).toArray w (Ret (fun v w2 => v = .bool r ∧ Sat [] w w2 [] []))) (w1_ : Has w0 k1_) (r : Bool) (H : slices_ContainsFunc_string_string.f l0 q1 = some r) :
    Calls Try.prog 149 #[.slice A0_ l0.length p0_, .func (.func f1_) #[] c1_.toArray] w0 (Ret (fun v w => v = .bool r ∧ Sat [] w0 w [] [])) := by
  have hs : Sat [] w0 w0 [(1, k0_), (2, k1_)] [] := Sat.init w0 [(1, k0_), (2, k1_)] [] (by simp only [List.mem_cons, List.not_mem_nil, or_false]; rintro x (rfl | rfl) <;> assumption) (by simp) List.nodup_nil (by simp [blks])
  unfold slices_ContainsFunc_string_string.f at H
  refine enter Try.func149 rfl Try.ntmps149 rfl fun a hk => ?_
  apply wp_seq_k; intro K1 hK1
  apply wp_region_lit
  refine sa _ rfl hk rfl rfl rfl fun a hk => ?_
  show wpList _ _ _ [] _ _
  refine wpList_nil ?_
  refine hK1 _ _ ?_
  apply wp_seq_k; intro K2 hK2
  apply wp_region_lit
  refine sm _ rfl hk rfl rfl rfl fun a hk => ?_
  refine sm _ rfl hk rfl rfl rfl fun a hk => ?_
  obtain ⟨y3, h4, H⟩ := bind_some H
  refine sc rfl en174 hk rfl rfl rfl (slices_IndexFunc_string_string_t _ A0_ p0_ l0 _ v0_ (hs.hasD (k := 1) rfl) f1_ c1_ e1_ q1 k1_ t1_ (hs.hasD (k := 2) rfl) _ h4) ?_
  rintro _ w ⟨rfl, hG⟩ a hk
  have hs := hs.call0 hG
  refine sv (.bool (decide (y3 ≥ 0))) hk rfl rfl rfl fun a hk => ?_
  refine sa _ rfl hk rfl rfl rfl fun a hk => ?_
  show wpList _ _ _ [] _ _
  refine wpList_nil ?_
  refine hK2 _ _ ?_
  refine wp_ret ?_
  obtain rfl := Option.some.inj H
  exact fin hk _ [(.bool (decide (y3 ≥ 0)))] rfl ⟨rfl, trivial⟩ ⟨rfl, (hs.pick [] rfl).dnil⟩

noncomputable def impl_areAll_string__c1.f (x0 : ByteArray) (q1 : ByteArray → Option (Bool)) : Option (Bool) :=
  ((q1 x0).bind fun y3 => (some (!y3)))
set_option maxRecDepth 100000 in
set_option maxHeartbeats 0 in
theorem impl_areAll_string__c1_t (w0 : World) (x0 : ByteArray) (b1_ : Nat) (f1_ : FuncId) (c1_ : List Value) (e1_ : Enters Try.prog f1_) (q1 : ByteArray → Option (Bool)) (k1_ : Chunk) (t1_ : ∀ w, Has w k1_ → ∀ (z0 : ByteArray) (r : Bool), q1 z0 = some r → Calls Try.prog f1_ (([.string z0] : List Value) ++ c1_).toArray w (Ret (fun v w2 => v = .bool r ∧ Sat [] w w2 [] []))) (w1_ : Has w0 k1_) (h1_ : Has w0 [(b1_, .cells #[.func (.func f1_) #[] c1_.toArray] 123 (0, 0))]) (r : Bool) (H : impl_areAll_string__c1.f x0 q1 = some r) :
    Calls Try.prog 150 #[.string x0, .pointer (some ⟨b1_, 0, none⟩)] w0 (Ret (fun v w => v = .bool r ∧ Sat [] w0 w [] [])) := by
  have hs : Sat [] w0 w0 [(2, k1_), (1, [(b1_, .cells #[.func (.func f1_) #[] c1_.toArray] 123 (0, 0))])] [] := Sat.init w0 [(2, k1_), (1, [(b1_, .cells #[.func (.func f1_) #[] c1_.toArray] 123 (0, 0))])] [] (by simp only [List.mem_cons, List.not_mem_nil, or_false]; rintro x (rfl | rfl) <;> assumption) (by simp) List.nodup_nil (by simp [blks])
  unfold impl_areAll_string__c1.f at H
  refine enter Try.func150 rfl Try.ntmps150 rfl fun a hk => ?_
  apply wp_seq_k; intro K1 hK1
  apply wp_region_lit
  refine sa _ rfl hk rfl rfl rfl fun a hk => ?_
  show wpList _ _ _ [] _ _
  refine wpList_nil ?_
  refine hK1 _ _ ?_
  apply wp_seq_k; intro K2 hK2
  apply wp_region_lit
  refine sl rfl hk rfl rfl rfl ag123 (box_cellD hs (k := 1) rfl rfl) fun a hk => ?_
  refine sm _ rfl hk rfl rfl rfl fun a hk => ?_
  obtain ⟨y3, h4, H⟩ := bind_some H
  refine scv (vs := ([(.string x0)] : List Value) ++ c1_) rfl rfl e1_ hk rfl rfl rfl (t1_ _ (hs.hasD (k := 2) rfl) x0 _ h4) ?_
  rintro _ w ⟨rfl, hG⟩ a hk
  have hs := hs.call0 hG
  refine sv (.bool (!y3)) hk rfl rfl rfl fun a hk => ?_
  refine sa _ rfl hk rfl rfl rfl fun a hk => ?_
  show wpList _ _ _ [] _ _
  refine wpList_nil ?_
  refine hK2 _ _ ?_
  refine wp_ret ?_
  obtain rfl := Option.some.inj H
  exact fin hk _ [(.bool (!y3))] rfl ⟨rfl, trivial⟩ ⟨rfl, (hs.pick [] rfl).dnil⟩

noncomputable def impl_areAll_string.f (l0 : List ByteArray) (q1 : ByteArray → Option (Bool)) : Option (Bool) :=
  ((slices_ContainsFunc_string_string.f l0 (fun z0 => impl_areAll_string__c1.f z0 q1)).bind fun y4 => (some (!y4)))
set_option maxRecDepth 100000 in
set_option maxHeartbeats 0 in
theorem impl_areAll_string_t (w0 : World) (A0_ : Option Addr) (p0_ : Nat) (l0 : List ByteArray) (k0_ : Chunk) (v0_ : View Lay.str A0_ p0_ l0 k0_) (w0_ : Has w0 k0_) (f1_ : FuncId) (c1_ : List Value) (e1_ : Enters Try.prog f1_) (q1 : ByteArray → Option (Bool)) (k1_ : Chunk) (t1_ : ∀ w, Has w k1_ → ∀ (z0 : ByteArray) (r : Bool), q1 z0 = some r → Calls Try.prog f1_ (([.string z0] : List Value) ++ c1_).toArray w (Ret (fun v w2 => v = .bool r ∧ Sat [] w w2 [] []))) (w1_ : Has w0 k1_) (r : Bool) (H : impl_areAll_string.f l0 q1 = some r) :
    Calls Try.prog 99 #[.slice A0_ l0.length p0_, .func (.func f1_) #[] c1_.toArray] w0 (Ret (fun v w => v = .bool r ∧ Sat [] w0 w [] [])) := by
  have hs : Sat [] w0 w0 [(1, k0_), (2, k1_)] [] := Sat.init w0 [(1, k0_), (2, k1_)] [] (by simp only [List.mem_cons, List.not_mem_nil, or_false]; rintro x (rfl | rfl) <;> assumption) (by simp) List.nodup_nil (by simp [blks])
  unfold impl_areAll_string.f at H
  refine enter Try.func99 rfl Try.ntmps99 rfl fun a hk => ?_
  apply wp_seq_k; intro K1 hK1
  apply wp_region_lit
  refine sbx 3 hs rfl hk rfl rfl rfl rfl fun b2 w a hk hs => ?_
  refine sa _ rfl hk rfl rfl rfl fun a hk => ?_
  show wpList _ _ _ [] _ _
  refine wpList_nil ?_
  refine hK1 _ _ ?_
  apply wp_seq_k; intro K3 hK3
  apply wp_region_lit
  refine sm _ rfl hk rfl rfl rfl fun a hk => ?_
  refine smf (cs := [.pointer (some ⟨b2, 0, none⟩)]) rfl hk rfl rfl rfl fun a hk => ?_
  obtain ⟨y4, h5, H⟩ := bind_some H
  refine sc rfl en149 hk rfl rfl rfl (slices_ContainsFunc_string_string_t _ A0_ p0_ l0 _ v0_ (hs.hasD (k := 1) rfl) 150 [.pointer (some ⟨b2, 0, none⟩)] en150 (fun z0 => impl_areAll_string__c1.f z0 q1) ([(b2, .cells #[.func (.func f1_) #[] c1_.toArray] 123 (0, 0))] ++ k1_) (fun w hz z0 r h => impl_areAll_string__c1_t w z0 _ f1_ c1_ e1_ q1 k1_ t1_ (Has.right hz) (Has.left hz) r h) (Has.app (hs.hasG (k := 3) rfl) (hs.hasD (k := 2) rfl)) _ h5) ?_
  rintro _ w ⟨rfl, hG⟩ a hk
  have hs := hs.call0 hG
  refine sv (.bool (!y4)) hk rfl rfl rfl fun a hk => ?_
  refine sa _ rfl hk rfl rfl rfl fun a hk => ?_
  show wpList _ _ _ [] _ _
  refine wpList_nil ?_
  refine hK3 _ _ ?_
  refine wp_ret ?_
  obtain rfl := Option.some.inj H
  exact fin hk _ [(.bool (!y4))] rfl ⟨rfl, trivial⟩ ⟨rfl, (hs.pick [] rfl).dnil⟩

noncomputable def slices_IndexFunc_impl_Io_impl_Io.s0 (l0 : List S_Io) (q1 : S_Io → Option (Bool)) (u6 : Int) : Option ((Int) ⊕ Ex (Unit) (Int)) :=
  (bif (decide (u6 < (l0.length : Int))) then (if 0 ≤ u6 ∧ u6 < (l0.length : Int) then ((q1 (l0.getD u6.toNat z_Io)).bind fun y25 => (bif y25 then (some (.inr (.ret u6))) else (some (.inl (w64 (u6 + 1)))))) else none) else (some (.inr (.out ()))))
noncomputable def slices_IndexFunc_impl_Io_impl_Io.f (l0 : List S_Io) (q1 : S_Io → Option (Bool)) : Option (Int) :=
  ((loopO (fun s => slices_IndexFunc_impl_Io_impl_Io.s0 l0 q1 s) 0).bind fun o => match o with | .out _ => (some (-1)) | .ret r => (some r))
set_option maxRecDepth 100000 in
set_option maxHeartbeats 0 in
theorem slices_IndexFunc_impl_Io_impl_Io_t (w0 : World) (A0_ : Option Addr) (p0_ : Nat) (l0 : List S_Io) (k0_ : Chunk) (v0_ : View L_Io A0_ p0_ l0 k0_) (w0_ : Has w0 k0_) (f1_ : FuncId) (c1_ : List Value) (e1_ : Enters Try.prog f1_) (q1 : S_Io → Option (Bool)) (k1_ : Chunk) (t1_ : ∀ w, Has w k1_ → ∀ (z0 : S_Io) (r : Bool), q1 z0 = some r → Calls Try.prog f1_ (([.agg #[.int .i64 z0.At, .string z0.Data]] : List Value) ++ c1_).toArray w (Ret (fun v w2 => v = .bool r ∧ Sat [] w w2 [] []))) (w1_ : Has w0 k1_) (r : Int) (H : slices_IndexFunc_impl_Io_impl_Io.f l0 q1 = some r) :
    Calls Try.prog 175 #[.slice A0_ l0.length p0_, .func (.func f1_) #[] c1_.toArray] w0 (Ret (fun v w => v = .int .i64 r ∧ Sat [] w0 w [] [])) := by
  have hs : Sat [] w0 w0 [(1, k0_), (2, k1_)] [] := Sat.init w0 [(1, k0_), (2, k1_)] [] (by simp only [List.mem_cons, List.not_mem_nil, or_false]; rintro x (rfl | rfl) <;> assumption) (by simp) List.nodup_nil (by simp [blks])
  unfold slices_IndexFunc_impl_Io_impl_Io.f at H
  refine enter Try.func175 rfl Try.ntmps175 rfl fun a hk => ?_
  apply wp_seq_k; intro K1 hK1
  apply wp_region_lit
  refine sa _ rfl hk rfl rfl rfl fun a hk => ?_
  show wpList _ _ _ [] _ _
  refine wpList_nil ?_
  refine hK1 _ _ ?_
  apply wp_seq_k; intro K2 hK2
  apply wp_seq_k; intro K3 hK3
  apply wp_region_lit
  refine sm _ rfl hk rfl rfl rfl fun a hk => ?_
  refine sle rfl hk rfl rfl rfl un65 fun a hk => ?_
  refine sm _ rfl hk rfl rfl rfl fun a hk => ?_
  show wpList _ _ _ [] _ _
  refine wpList_nil ?_
  refine hK3 _ _ ?_
  obtain ⟨o7, h8, HL9⟩ := bind_some H
  clear H
  obtain ⟨R10, hR10⟩ : ∃ R : Act → World → Prop, R = fun a w => o7 = .out () ∧ Kn [] 19 a ∧ Sat [] w0 w [(1, k0_), (2, k1_)] [] := ⟨_, rfl⟩
  refine wp_cutq R10 ?_ ?_
  ·refine wp_block ?_
   obtain ⟨fu12, h8⟩ := loopO_some h8
   obtain ⟨I11, hI11⟩ : ∃ I : Nat → Act → World → Prop, I = fun fu a w => ∃ (u6 : Int), loopN (fun s => slices_IndexFunc_impl_Io_impl_Io.s0 l0 q1 s) fu u6 = some o7 ∧ Kn [(0, (.slice A0_ l0.length p0_)), (1, (.func (.func f1_) #[] c1_.toArray)), (7, (.int .i64 (l0.length : Int))), (8, (.int .i64 u6))] 19 a ∧ Sat [] w0 w [(1, k0_), (2, k1_)] [] := ⟨_, rfl⟩
   refine wp_loop_ghost I11 fu12 ?_ ?_
   ·rw [hI11]
    exact ⟨0, h8, (hk.c 0 rfl (hk.c 1 rfl (hk.c 7 rfl (hk.c 8 rfl hk.k)))), (hs.pick [] rfl)⟩
   ·clear h8 hk hs
    intro fu12 a w hI0
    rw [hI11] at hI0
    obtain ⟨u6, hi, hk, hs⟩ := hI0
    obtain ⟨x13, H, h14⟩ := loop_round hi
    try dsimp only at H
    unfold slices_IndexFunc_impl_Io_impl_Io.s0 at H
    apply wp_seq_k; intro K15 hK15
    apply wp_region_lit
    refine sv (.bool (decide (u6 < (l0.length : Int)))) hk rfl rfl rfl fun a hk => ?_
    show wpList _ _ _ [] _ _
    refine wpList_nil ?_
    refine hK15 _ _ ?_
    apply wp_seq_k; intro K16 hK16
    rcases cond_some H with ⟨c17, H⟩ | ⟨c17, H⟩
    ·have hk := hk.lit 9 c17 rfl
     refine cnd_true hk rfl rfl ?_
     refine wp_skip ?_
     refine hK16 _ _ ?_
     have hs := hs.pick [] rfl
     apply wp_seq_k; intro K18 hK18
     refine wp_block ?_
     apply wp_seq_k; intro K19 hK19
     apply wp_region_lit
     refine sm _ rfl hk rfl rfl rfl fun a hk => ?_
     refine sa _ rfl hk rfl rfl rfl fun a hk => ?_
     show wpList _ _ _ [] _ _
     refine wpList_nil ?_
     refine hK19 _ _ ?_
     apply wp_seq_k; intro K20 hK20
     apply wp_region_lit
     refine sm _ rfl hk rfl rfl rfl fun a hk => ?_
     refine sm _ rfl hk rfl rfl rfl fun a hk => ?_
     refine sm _ rfl hk rfl rfl rfl fun a hk => ?_
     rcases ite_some H with ⟨c21, H⟩ | ⟨_, H⟩
     rotate_left
     ·cases H
     obtain ⟨b22, q23, hAc21⟩ := (v0_).some_ u6 c21.1 c21.2
     refine si rfl hk rfl rfl rfl rfl un65 sz129 c21.1 c21.2 hAc21 fun a hk => ?_
     obtain ⟨_, rfl, e24⟩ := (v0_).at_ z_Io u6 c21.1 c21.2
     refine sln [.int .i64 ((l0.getD u6.toNat z_Io).At), .string ((l0.getD u6.toNat z_Io).Data)] rfl hk rfl rfl rfl ag129 sz129 (cells_at e24 (hs.hasD (k := 1) rfl)) fun a hk => ?_
     obtain ⟨y25, h26, H⟩ := bind_some H
     refine scv (vs := ([(.agg #[.int .i64 ((l0.getD u6.toNat z_Io).At), .string ((l0.getD u6.toNat z_Io).Data)])] : List Value) ++ c1_) rfl rfl e1_ hk rfl rfl rfl (t1_ _ (hs.hasD (k := 2) rfl) (l0.getD u6.toNat z_Io) _ h26) ?_
     rintro _ w ⟨rfl, hG⟩ a hk
     have hs := hs.call0 hG
     show wpList _ _ _ [] _ _
     refine wpList_nil ?_
     refine hK20 _ _ ?_
     rcases cond_some H with ⟨c27, H⟩ | ⟨c27, H⟩
     ·have hk := hk.lit 16 c27 rfl
      refine cnd_true hk rfl rfl ?_
      apply wp_seq_k; intro K28 hK28
      apply wp_region_lit
      refine sm _ rfl hk rfl rfl rfl fun a hk => ?_
      refine sa _ rfl hk rfl rfl rfl fun a hk => ?_
      show wpList _ _ _ [] _ _
      refine wpList_nil ?_
      refine hK28 _ _ ?_
      refine wp_ret ?_
      obtain rfl := Option.some.inj H
      have ho7 := h14
      try dsimp only at ho7
      subst ho7
      have H := HL9
      try dsimp only at H
      obtain rfl := Option.some.inj H
      exact fin hk _ [(.int .i64 u6)] rfl ⟨rfl, trivial⟩ ⟨rfl, (hs.pick [] rfl).dnil⟩
     ·have hk := hk.lit 16 c27 rfl
      refine cnd_false hk rfl rfl ?_
      refine wp_skip ?_
      refine hK18 _ _ ?_
      apply wp_region_lit
      refine sv (.int .i64 (w64 (u6 + 1))) hk rfl rfl rfl fun a hk => ?_
      refine sm _ rfl hk rfl rfl rfl fun a hk => ?_
      show wpList _ _ _ [] _ _
      refine wpList_nil ?_
      obtain rfl := Option.some.inj H
      obtain ⟨m29, hmm29, h14⟩ := h14
      show ∃ n', n' < _ ∧ I11 n' _ _
      refine ⟨m29, hmm29, ?_⟩
      rw [hI11]
      exact ⟨(w64 (u6 + 1)), h14, (hk.c 0 rfl (hk.c 1 rfl (hk.c 7 rfl (hk.c 8 rfl hk.k)))), (hs.pick [] rfl)⟩
    ·have hk := hk.lit 9 c17 rfl
     refine cnd_false hk rfl rfl ?_
     refine wp_exit ?_
     obtain rfl := Option.some.inj H
     show R10 _ _
     rw [hR10]
     exact ⟨h14.symm, hk.k, (hs.pick [] rfl)⟩
  ·intro a w hR0
   rw [hR10] at hR0
   obtain ⟨rfl, hk, hs⟩ := hR0
   have H := HL9
   try dsimp only at H
   refine hK2 _ _ ?_
   apply wp_seq_k; intro K30 hK30
   apply wp_region_lit
   refine sa _ rfl hk rfl rfl rfl fun a hk => ?_
   show wpList _ _ _ [] _ _
   refine wpList_nil ?_
   refine hK30 _ _ ?_
   have hs := hs.pick [] rfl
   refine wp_ret ?_
   obtain rfl := Option.some.inj H
   exact fin hk _ [(.int .i64 (-1))] rfl ⟨rfl, trivial⟩ ⟨rfl, (hs.pick [] rfl).dnil⟩

noncomputable def slices_ContainsFunc_impl_Io_impl_Io.f (l0 : List S_Io) (q1 : S_Io → Option (Bool)) : Option (Bool) :=
  ((slices_IndexFunc_impl_Io_impl_Io.f l0 q1).bind fun y3 => (some (decide (y3 ≥ 0))))
set_option maxRecDepth 100000 in
set_option maxHeartbeats 0 in
theorem slices_ContainsFunc_impl_Io_impl_Io_t (w0 : World) (A0_ : Option Addr) (p0_ : Nat) (l0 : List S_Io) (k0_ : Chunk) (v0_ : View L_Io A0_ p0_ l0 k0_) (w0_ : Has w0 k0_) (f1_ : FuncId) (c1_ : List Value) (e1_ : Enters Try.prog f1_) (q1 : S_Io → Option (Bool)) (k1_ : Chunk) (t1_ : ∀ w, Has w k1_ → ∀ (z0 : S_Io) (r : Bool), q1 z0 = some r → Calls Try.prog f1_ (([.agg #[.int .i64 z0.At, .string z0.Data]] : List Value) ++ c1_).toArray w (Ret (fun v w2 => v = .bool r ∧ Sat [] w w2 [] []))) (w1_ : Has w0 k1_) (r : Bool) (H : slices_ContainsFunc_impl_Io_impl_Io.f l0 q1 = some r) :
    Calls Try.prog 151 #[.slice A0_ l0.length p0_, .func (.func f1_) #[] c1_.toArray] w0 (Ret (fun v w => v = .bool r ∧ Sat [] w0 w [] [])) := by
  have hs : Sat [] w0 w0 [(1, k0_), (2, k1_)] [] := Sat.init w0 [(1, k0_), (2, k1_)] [] (by simp only [List.mem_cons, List.not_mem_nil, or_false]; rintro x (rfl | rfl) <;> assumption) (by simp) List.nodup_nil (by simp [blks])
  unfold slices_ContainsFunc_impl_Io_impl_Io.f at H
  refine enter Try.func151 rfl Try.ntmps151 rfl fun a hk => ?_
  apply wp_seq_k; intro K1 hK1
  apply wp_region_lit
  refine sa _ rfl hk rfl rfl rfl fun a hk => ?_
  show wpList _ _ _ [] _ _
  refine wpList_nil ?_
  refine hK1 _ _ ?_
  apply wp_seq_k; intro K2 hK2
  apply wp_region_lit
  refine sm _ rfl hk rfl rfl rfl fun a hk => ?_
  refine sm _ rfl hk rfl rfl rfl fun a hk => ?_
  obtain ⟨y3, h4, H⟩ := bind_some H
  refine sc rfl en175 hk rfl rfl rfl (slices_IndexFunc_impl_Io_impl_Io_t _ A0_ p0_ l0 _ v0_ (hs.hasD (k := 1) rfl) f1_ c1_ e1_ q1 k1_ t1_ (hs.hasD (k := 2) rfl) _ h4) ?_
  rintro _ w ⟨rfl, hG⟩ a hk
  have hs := hs.call0 hG
  refine sv (.bool (decide (y3 ≥ 0))) hk rfl rfl rfl fun a hk => ?_
  refine sa _ rfl hk rfl rfl rfl fun a hk => ?_
  show wpList _ _ _ [] _ _
  refine wpList_nil ?_
  refine hK2 _ _ ?_
  refine wp_ret ?_
  obtain rfl := Option.some.inj H
  exact fin hk _ [(.bool (decide (y3 ≥ 0)))] rfl ⟨rfl, trivial⟩ ⟨rfl, (hs.pick [] rfl).dnil⟩

noncomputable def impl_areAll_impl_Io__c1.f (x0 : S_Io) (q1 : S_Io → Option (Bool)) : Option (Bool) :=
  ((q1 x0).bind fun y4 => (some (!y4)))
set_option maxRecDepth 100000 in
set_option maxHeartbeats 0 in
theorem impl_areAll_impl_Io__c1_t (w0 : World) (x0 : S_Io) (b1_ : Nat) (f1_ : FuncId) (c1_ : List Value) (e1_ : Enters Try.prog f1_) (q1 : S_Io → Option (Bool)) (k1_ : Chunk) (t1_ : ∀ w, Has w k1_ → ∀ (z0 : S_Io) (r : Bool), q1 z0 = some r → Calls Try.prog f1_ (([.agg #[.int .i64 z0.At, .string z0.Data]] : List Value) ++ c1_).toArray w (Ret (fun v w2 => v = .bool r ∧ Sat [] w w2 [] []))) (w1_ : Has w0 k1_) (h1_ : Has w0 [(b1_, .cells #[.func (.func f1_) #[] c1_.toArray] 135 (0, 0))]) (r : Bool) (H : impl_areAll_impl_Io__c1.f x0 q1 = some r) :
    Calls Try.prog 152 #[.agg #[.int .i64 x0.At, .string x0.Data], .pointer (some ⟨b1_, 0, none⟩)] w0 (Ret (fun v w => v = .bool r ∧ Sat [] w0 w [] [])) := by
  have hs : Sat [] w0 w0 [(2, k1_), (1, [(b1_, .cells #[.func (.func f1_) #[] c1_.toArray] 135 (0, 0))])] [] := Sat.init w0 [(2, k1_), (1, [(b1_, .cells #[.func (.func f1_) #[] c1_.toArray] 135 (0, 0))])] [] (by simp only [List.mem_cons, List.not_mem_nil, or_false]; rintro x (rfl | rfl) <;> assumption) (by simp) List.nodup_nil (by simp [blks])
  unfold impl_areAll_impl_Io__c1.f at H
  refine enter Try.func152 rfl Try.ntmps152 rfl fun a hk => ?_
  apply wp_seq_k; intro K1 hK1
  apply wp_region_lit
  refine sbx 3 hs rfl hk rfl rfl rfl rfl fun b2 w a hk hs => ?_
  refine sa _ rfl hk rfl rfl rfl fun a hk => ?_
  show wpList _ _ _ [] _ _
  refine wpList_nil ?_
  refine hK1 _ _ ?_
  apply wp_seq_k; intro K3 hK3
  apply wp_region_lit
  refine sl rfl hk rfl rfl rfl ag135 (box_cellD hs (k := 1) rfl rfl) fun a hk => ?_
  refine sln [.int .i64 x0.At, .string x0.Data] rfl hk rfl rfl rfl ag129 sz129 (box_cells hs (k := 3) rfl) fun a hk => ?_
  obtain ⟨y4, h5, H⟩ := bind_some H
  refine scv (vs := ([(.agg #[.int .i64 x0.At, .string x0.Data])] : List Value) ++ c1_) rfl rfl e1_ hk rfl rfl rfl (t1_ _ (hs.hasD (k := 2) rfl) x0 _ h5) ?_
  rintro _ w ⟨rfl, hG⟩ a hk
  have hs := hs.call0 hG
  refine sv (.bool (!y4)) hk rfl rfl rfl fun a hk => ?_
  refine sa _ rfl hk rfl rfl rfl fun a hk => ?_
  show wpList _ _ _ [] _ _
  refine wpList_nil ?_
  refine hK3 _ _ ?_
  refine wp_ret ?_
  obtain rfl := Option.some.inj H
  exact fin hk _ [(.bool (!y4))] rfl ⟨rfl, trivial⟩ ⟨rfl, (hs.pick [] rfl).dnil⟩

noncomputable def impl_areAll_impl_Io.f (l0 : List S_Io) (q1 : S_Io → Option (Bool)) : Option (Bool) :=
  ((slices_ContainsFunc_impl_Io_impl_Io.f l0 (fun z0 => impl_areAll_impl_Io__c1.f z0 q1)).bind fun y4 => (some (!y4)))
set_option maxRecDepth 100000 in
set_option maxHeartbeats 0 in
theorem impl_areAll_impl_Io_t (w0 : World) (A0_ : Option Addr) (p0_ : Nat) (l0 : List S_Io) (k0_ : Chunk) (v0_ : View L_Io A0_ p0_ l0 k0_) (w0_ : Has w0 k0_) (f1_ : FuncId) (c1_ : List Value) (e1_ : Enters Try.prog f1_) (q1 : S_Io → Option (Bool)) (k1_ : Chunk) (t1_ : ∀ w, Has w k1_ → ∀ (z0 : S_Io) (r : Bool), q1 z0 = some r → Calls Try.prog f1_ (([.agg #[.int .i64 z0.At, .string z0.Data]] : List Value) ++ c1_).toArray w (Ret (fun v w2 => v = .bool r ∧ Sat [] w w2 [] []))) (w1_ : Has w0 k1_) (r : Bool) (H : impl_areAll_impl_Io.f l0 q1 = some r) :
    Calls Try.prog 100 #[.slice A0_ l0.length p0_, .func (.func f1_) #[] c1_.toArray] w0 (Ret (fun v w => v = .bool r ∧ Sat [] w0 w [] [])) := by
  have hs : Sat [] w0 w0 [(1, k0_), (2, k1_)] [] := Sat.init w0 [(1, k0_), (2, k1_)] [] (by simp only [List.mem_cons, List.not_mem_nil, or_false]; rintro x (rfl | rfl) <;> assumption) (by simp) List.nodup_nil (by simp [blks])
  unfold impl_areAll_impl_Io.f at H
  refine enter Try.func100 rfl Try.ntmps100 rfl fun a hk => ?_
  apply wp_seq_k; intro K1 hK1
  apply wp_region_lit
  refine sbx 3 hs rfl hk rfl rfl rfl rfl fun b2 w a hk hs => ?_
  refine sa _ rfl hk rfl rfl rfl fun a hk => ?_
  show wpList _ _ _ [] _ _
  refine wpList_nil ?_
  refine hK1 _ _ ?_
  apply wp_seq_k; intro K3 hK3
  apply wp_region_lit
  refine sm _ rfl hk rfl rfl rfl fun a hk => ?_
  refine smf (cs := [.pointer (some ⟨b2, 0, none⟩)]) rfl hk rfl rfl rfl fun a hk => ?_
  obtain ⟨y4, h5, H⟩ := bind_some H
  refine sc rfl en151 hk rfl rfl rfl (slices_ContainsFunc_impl_Io_impl_Io_t _ A0_ p0_ l0 _ v0_ (hs.hasD (k := 1) rfl) 152 [.pointer (some ⟨b2, 0, none⟩)] en152 (fun z0 => impl_areAll_impl_Io__c1.f z0 q1) ([(b2, .cells #[.func (.func f1_) #[] c1_.toArray] 135 (0, 0))] ++ k1_) (fun w hz z0 r h => impl_areAll_impl_Io__c1_t w z0 _ f1_ c1_ e1_ q1 k1_ t1_ (Has.right hz) (Has.left hz) r h) (Has.app (hs.hasG (k := 3) rfl) (hs.hasD (k := 2) rfl)) _ h5) ?_
  rintro _ w ⟨rfl, hG⟩ a hk
  have hs := hs.call0 hG
  refine sv (.bool (!y4)) hk rfl rfl rfl fun a hk => ?_
  refine sa _ rfl hk rfl rfl rfl fun a hk => ?_
  show wpList _ _ _ [] _ _
  refine wpList_nil ?_
  refine hK3 _ _ ?_
  refine wp_ret ?_
  obtain rfl := Option.some.inj H
  exact fin hk _ [(.bool (!y4))] rfl ⟨rfl, trivial⟩ ⟨rfl, (hs.pick [] rfl).dnil⟩

noncomputable def impl_within.f (x0 : Int) (x1 : Int) (x2 : Int) : Option (Bool) :=
  (((bif (decide (x1 ≤ x0)) then (some (decide (x0 ≤ x2))) else (some false)) : Option (Bool)).bind fun u4 => (some u4))
set_option maxRecDepth 100000 in
set_option maxHeartbeats 0 in
theorem impl_within_t (w0 : World) (x0 : Int) (x1 : Int) (x2 : Int) (r : Bool) (H : impl_within.f x0 x1 x2 = some r) :
    Calls Try.prog 102 #[.int .i64 x0, .int .i64 x1, .int .i64 x2] w0 (Ret (fun v w => v = .bool r ∧ Sat [] w0 w [] [])) := by
  have hs : Sat [] w0 w0 [] [] := Sat.init w0 [] [] (by simp) (by simp) List.nodup_nil (by simp [blks])
  unfold impl_within.f at H
  refine enter Try.func102 rfl Try.ntmps102 rfl fun a hk => ?_
  apply wp_seq_k; intro K1 hK1
  apply wp_region_lit
  refine sa _ rfl hk rfl rfl rfl fun a hk => ?_
  show wpList _ _ _ [] _ _
  refine wpList_nil ?_
  refine hK1 _ _ ?_
  apply wp_seq_k; intro K2 hK2
  obtain ⟨o5, h6, HL7⟩ := bind_some H
  clear H
  obtain ⟨R8, hR8⟩ : ∃ R : Act → World → Prop, R = fun a w => ∃ (u4 : Bool), u4 = o5 ∧ Kn [(6, (.bool u4))] 15 a ∧ Sat [] w0 w [] [] := ⟨_, rfl⟩
  refine wp_cutq R8 ?_ ?_
  ·have H := h6
   apply wp_region_lit
   refine sm _ rfl hk rfl rfl rfl fun a hk => ?_
   refine sm _ rfl hk rfl rfl rfl fun a hk => ?_
   refine sv (.bool (decide (x1 ≤ x0))) hk rfl rfl rfl fun a hk => ?_
   refine sm _ rfl hk rfl rfl rfl fun a hk => ?_
   rcases cond_some H with ⟨c9, H⟩ | ⟨c9, H⟩
   ·have hk := hk.lit 10 c9 rfl
    refine sm _ rfl hk rfl rfl rfl fun a hk => ?_
    refine sm _ rfl hk rfl rfl rfl fun a hk => ?_
    refine sv (.bool (decide (x0 ≤ x2))) hk rfl rfl rfl fun a hk => ?_
    refine sv (.bool (decide (x0 ≤ x2))) hk rfl rfl rfl fun a hk => ?_
    refine sa _ rfl hk rfl rfl rfl fun a hk => ?_
    show wpList _ _ _ [] _ _
    refine wpList_nil ?_
    obtain rfl := Option.some.inj H
    show R8 _ _
    rw [hR8]
    exact ⟨(decide (x0 ≤ x2)), rfl, (hk.c 6 rfl hk.k), (hs.pick [] rfl)⟩
   ·have hk := hk.lit 10 c9 rfl
    refine sk hk rfl rfl rfl fun a hk => ?_
    refine sk hk rfl rfl rfl fun a hk => ?_
    refine sk hk rfl rfl rfl fun a hk => ?_
    refine sv (.bool false) hk rfl rfl rfl fun a hk => ?_
    refine sa _ rfl hk rfl rfl rfl fun a hk => ?_
    show wpList _ _ _ [] _ _
    refine wpList_nil ?_
    obtain rfl := Option.some.inj H
    show R8 _ _
    rw [hR8]
    exact ⟨false, rfl, (hk.c 6 rfl hk.k), (hs.pick [] rfl)⟩
  ·intro a w hR0
   rw [hR8] at hR0
   obtain ⟨u4, rfl, hk, hs⟩ := hR0
   have H := HL7
   try dsimp only at H
   refine hK2 _ _ ?_
   refine wp_ret ?_
   obtain rfl := Option.some.inj H
   exact fin hk _ [(.bool u4)] rfl ⟨rfl, trivial⟩ ⟨rfl, (hs.pick [] rfl).dnil⟩

noncomputable def impl_isSector.f (x0 : Int) : Option (Bool) :=
  ((impl_within.f x0 0 39).bind fun y3 => (some y3))
set_option maxRecDepth 100000 in
set_option maxHeartbeats 0 in
theorem impl_isSector_t (w0 : World) (x0 : Int) (r : Bool) (H : impl_isSector.f x0 = some r) :
    Calls Try.prog 87 #[.int .i64 x0] w0 (Ret (fun v w => v = .bool r ∧ Sat [] w0 w [] [])) := by
  have hs : Sat [] w0 w0 [] [] := Sat.init w0 [] [] (by simp) (by simp) List.nodup_nil (by simp [blks])
  unfold impl_isSector.f at H
  refine enter Try.func87 rfl Try.ntmps87 rfl fun a hk => ?_
  apply wp_seq_k; intro K1 hK1
  apply wp_region_lit
  refine sa _ rfl hk rfl rfl rfl fun a hk => ?_
  show wpList _ _ _ [] _ _
  refine wpList_nil ?_
  refine hK1 _ _ ?_
  apply wp_seq_k; intro K2 hK2
  apply wp_region_lit
  refine sm _ rfl hk rfl rfl rfl fun a hk => ?_
  obtain ⟨y3, h4, H⟩ := bind_some H
  refine sc rfl en102 hk rfl rfl rfl (impl_within_t _ x0 0 39 _ h4) ?_
  rintro _ w ⟨rfl, hG⟩ a hk
  have hs := hs.call0 hG
  refine sa _ rfl hk rfl rfl rfl fun a hk => ?_
  show wpList _ _ _ [] _ _
  refine wpList_nil ?_
  refine hK2 _ _ ?_
  refine wp_ret ?_
  obtain rfl := Option.some.inj H
  exact fin hk _ [(.bool y3)] rfl ⟨rfl, trivial⟩ ⟨rfl, (hs.pick [] rfl).dnil⟩

noncomputable def impl_DeviceOK_c1.f (x0 : S_Io) : Option (Bool) :=
  ((((impl_isSector.f x0.At).bind fun y10 => (bif y10 then ((impl_isContent.f x0.Data).bind fun y13 => (some y13)) else (some false))) : Option (Bool)).bind fun u5 => (some u5))
set_option maxRecDepth 100000 in
set_option maxHeartbeats 0 in
theorem impl_DeviceOK_c1_t (w0 : World) (x0 : S_Io) (r : Bool) (H : impl_DeviceOK_c1.f x0 = some r) :
    Calls Try.prog 101 #[.agg #[.int .i64 x0.At, .string x0.Data]] w0 (Ret (fun v w => v = .bool r ∧ Sat [] w0 w [] [])) := by
  have hs : Sat [] w0 w0 [] [] := Sat.init w0 [] [] (by simp) (by simp) List.nodup_nil (by simp [blks])
  unfold impl_DeviceOK_c1.f at H
  refine enter Try.func101 rfl Try.ntmps101 rfl fun a hk => ?_
  apply wp_seq_k; intro K1 hK1
  apply wp_region_lit
  refine sbx 1 hs rfl hk rfl rfl rfl rfl fun b2 w a hk hs => ?_
  refine sa _ rfl hk rfl rfl rfl fun a hk => ?_
  show wpList _ _ _ [] _ _
  refine wpList_nil ?_
  refine hK1 _ _ ?_
  apply wp_seq_k; intro K3 hK3
  obtain ⟨o6, h7, HL8⟩ := bind_some H
  clear H
  obtain ⟨R9, hR9⟩ : ∃ R : Act → World → Prop, R = fun a w => ∃ (u5 : Bool), u5 = o6 ∧ Kn [(2, (.bool u5))] 11 a ∧ Sat [] w0 w [] [] := ⟨_, rfl⟩
  refine wp_cutq R9 ?_ ?_
  ·have H := h7
   apply wp_region_lit
   refine sf ⟨b2, 0, none⟩ rfl hk rfl rfl rfl fd129_0 rfl fun a hk => ?_
   refine sl rfl hk rfl rfl rfl ag3 (box_cell hs (k := 1) rfl rfl) fun a hk => ?_
   obtain ⟨y10, h11, H⟩ := bind_some H
   refine sc rfl en87 hk rfl rfl rfl (impl_isSector_t _ x0.At _ h11) ?_
   rintro _ w ⟨rfl, hG⟩ a hk
   have hs := hs.call0 hG
   refine sm _ rfl hk rfl rfl rfl fun a hk => ?_
   rcases cond_some H with ⟨c12, H⟩ | ⟨c12, H⟩
   ·have hk := hk.lit 6 c12 rfl
    refine sf ⟨b2, 1, none⟩ rfl hk rfl rfl rfl fd129_1 rfl fun a hk => ?_
    refine sl rfl hk rfl rfl rfl ag9 (box_cell hs (k := 1) rfl rfl) fun a hk => ?_
    obtain ⟨y13, h14, H⟩ := bind_some H
    refine sc rfl en88 hk rfl rfl rfl (impl_isContent_t _ x0.Data _ h14) ?_
    rintro _ w ⟨rfl, hG⟩ a hk
    have hs := hs.call0 hG
    refine sv (.bool y13) hk rfl rfl rfl fun a hk => ?_
    refine sa _ rfl hk rfl rfl rfl fun a hk => ?_
    show wpList _ _ _ [] _ _
    refine wpList_nil ?_
    obtain rfl := Option.some.inj H
    show R9 _ _
    rw [hR9]
    exact ⟨y13, rfl, (hk.c 2 rfl hk.k), (hs.pick [] rfl)⟩
   ·have hk := hk.lit 6 c12 rfl
    refine sk hk rfl rfl rfl fun a hk => ?_
    refine sk hk rfl rfl rfl fun a hk => ?_
    refine sk hk rfl rfl rfl fun a hk => ?_
    refine sv (.bool false) hk rfl rfl rfl fun a hk => ?_
    refine sa _ rfl hk rfl rfl rfl fun a hk => ?_
    show wpList _ _ _ [] _ _
    refine wpList_nil ?_
    obtain rfl := Option.some.inj H
    show R9 _ _
    rw [hR9]
    exact ⟨false, rfl, (hk.c 2 rfl hk.k), (hs.pick [] rfl)⟩
  ·intro a w hR0
   rw [hR9] at hR0
   obtain ⟨u5, rfl, hk, hs⟩ := hR0
   have H := HL8
   try dsimp only at H
   refine hK3 _ _ ?_
   refine wp_ret ?_
   obtain rfl := Option.some.inj H
   exact fin hk _ [(.bool u5)] rfl ⟨rfl, trivial⟩ ⟨rfl, (hs.pick [] rfl).dnil⟩

noncomputable def impl_DeviceOK.f (x0 : S_Device) : Option (Bool) :=
  (((bif ((x0.Sure.length : Int) == 40) then ((impl_areAll_string.f x0.Sure impl_isContent.f).bind fun y11 => (bif y11 then (bif (decide ((x0.Unsure.length : Int) ≤ 60)) then ((impl_areAll_impl_Io.f x0.Unsure impl_DeviceOK_c1.f).bind fun y15 => (some y15)) else (some false)) else (some false))) else (some false)) : Option (Bool)).bind fun u5 => (some u5))
set_option maxRecDepth 100000 in
set_option maxHeartbeats 0 in
theorem impl_DeviceOK_t (w0 : World) (x0 : S_Device) (A0_0 : Option Addr) (p0_0 : Nat) (k0_0 : Chunk) (v0_0 : View Lay.str A0_0 p0_0 x0.Sure k0_0) (w0_0 : Has w0 k0_0) (A0_1 : Option Addr) (p0_1 : Nat) (k0_1 : Chunk) (v0_1 : View L_Io A0_1 p0_1 x0.Unsure k0_1) (w0_1 : Has w0 k0_1) (r : Bool) (H : impl_DeviceOK.f x0 = some r) :
    Calls Try.prog 47 #[.agg #[.slice A0_0 x0.Sure.length p0_0, .slice A0_1 x0.Unsure.length p0_1]] w0 (Ret (fun v w => v = .bool r ∧ Sat [] w0 w [] [])) := by
  have hs : Sat [] w0 w0 [(1, k0_0), (2, k0_1)] [] := Sat.init w0 [(1, k0_0), (2, k0_1)] [] (by simp only [List.mem_cons, List.not_mem_nil, or_false]; rintro x (rfl | rfl) <;> assumption) (by simp) List.nodup_nil (by simp [blks])
  unfold impl_DeviceOK.f at H
  refine enter Try.func47 rfl Try.ntmps47 rfl fun a hk => ?_
  apply wp_seq_k; intro K1 hK1
  apply wp_region_lit
  refine sbx 3 hs rfl hk rfl rfl rfl rfl fun b2 w a hk hs => ?_
  refine sa _ rfl hk rfl rfl rfl fun a hk => ?_
  show wpList _ _ _ [] _ _
  refine wpList_nil ?_
  refine hK1 _ _ ?_
  apply wp_seq_k; intro K3 hK3
  obtain ⟨o6, h7, HL8⟩ := bind_some H
  clear H
  obtain ⟨R9, hR9⟩ : ∃ R : Act → World → Prop, R = fun a w => ∃ (u5 : Bool), u5 = o6 ∧ Kn [(2, (.bool u5))] 23 a ∧ Sat [] w0 w [(1, k0_0), (2, k0_1)] [] := ⟨_, rfl⟩
  refine wp_cutq R9 ?_ ?_
  ·have H := h7
   apply wp_region_lit
   refine sf ⟨b2, 0, none⟩ rfl hk rfl rfl rfl fd67_0 rfl fun a hk => ?_
   refine sl rfl hk rfl rfl rfl ag64 (box_cell hs (k := 3) rfl rfl) fun a hk => ?_
   refine sle rfl hk rfl rfl rfl un64 fun a hk => ?_
   refine sv (.bool ((x0.Sure.length : Int) == 40)) hk rfl rfl rfl fun a hk => ?_
   refine sm _ rfl hk rfl rfl rfl fun a hk => ?_
   rcases cond_some H with ⟨c10, H⟩ | ⟨c10, H⟩
   ·have hk := hk.lit 7 c10 rfl
    refine sf ⟨b2, 0, none⟩ rfl hk rfl rfl rfl fd67_0 rfl fun a hk => ?_
    refine sl rfl hk rfl rfl rfl ag64 (box_cell hs (k := 3) rfl rfl) fun a hk => ?_
    obtain ⟨y11, h12, H⟩ := bind_some H
    refine sc rfl en99 hk rfl rfl rfl (impl_areAll_string_t _ A0_0 p0_0 x0.Sure _ v0_0 (hs.hasD (k := 1) rfl) 88 [] en88 impl_isContent.f [] (fun w _ z0 r h => impl_isContent_t w z0 r h) (Has.nil _) _ h12) ?_
    rintro _ w ⟨rfl, hG⟩ a hk
    have hs := hs.call0 hG
    refine sv (.bool y11) hk rfl rfl rfl fun a hk => ?_
    refine sm _ rfl hk rfl rfl rfl fun a hk => ?_
    rcases cond_some H with ⟨c13, H⟩ | ⟨c13, H⟩
    ·have hk := hk.lit 12 c13 rfl
     refine sf ⟨b2, 1, none⟩ rfl hk rfl rfl rfl fd67_1 rfl fun a hk => ?_
     refine sl rfl hk rfl rfl rfl ag65 (box_cell hs (k := 3) rfl rfl) fun a hk => ?_
     refine sle rfl hk rfl rfl rfl un65 fun a hk => ?_
     refine sv (.bool (decide ((x0.Unsure.length : Int) ≤ 60))) hk rfl rfl rfl fun a hk => ?_
     refine sv (.bool (decide ((x0.Unsure.length : Int) ≤ 60))) hk rfl rfl rfl fun a hk => ?_
     refine sm _ rfl hk rfl rfl rfl fun a hk => ?_
     rcases cond_some H with ⟨c14, H⟩ | ⟨c14, H⟩
     ·have hk := hk.lit 18 c14 rfl
      refine sf ⟨b2, 1, none⟩ rfl hk rfl rfl rfl fd67_1 rfl fun a hk => ?_
      refine sl rfl hk rfl rfl rfl ag65 (box_cell hs (k := 3) rfl rfl) fun a hk => ?_
      obtain ⟨y15, h16, H⟩ := bind_some H
      refine sc rfl en100 hk rfl rfl rfl (impl_areAll_impl_Io_t _ A0_1 p0_1 x0.Unsure _ v0_1 (hs.hasD (k := 2) rfl) 101 [] en101 impl_DeviceOK_c1.f [] (fun w _ z0 r h => impl_DeviceOK_c1_t w z0 r h) (Has.nil _) _ h16) ?_
      rintro _ w ⟨rfl, hG⟩ a hk
      have hs := hs.call0 hG
      refine sv (.bool y15) hk rfl rfl rfl fun a hk => ?_
      refine sa _ rfl hk rfl rfl rfl fun a hk => ?_
      show wpList _ _ _ [] _ _
      refine wpList_nil ?_
      obtain rfl := Option.some.inj H
      show R9 _ _
      rw [hR9]
      exact ⟨y15, rfl, (hk.c 2 rfl hk.k), (hs.pick [] rfl)⟩
     ·have hk := hk.lit 18 c14 rfl
      refine sk hk rfl rfl rfl fun a hk => ?_
      refine sk hk rfl rfl rfl fun a hk => ?_
      refine sk hk rfl rfl rfl fun a hk => ?_
      refine sv (.bool false) hk rfl rfl rfl fun a hk => ?_
      refine sa _ rfl hk rfl rfl rfl fun a hk => ?_
      show wpList _ _ _ [] _ _
      refine wpList_nil ?_
      obtain rfl := Option.some.inj H
      show R9 _ _
      rw [hR9]
      exact ⟨false, rfl, (hk.c 2 rfl hk.k), (hs.pick [] rfl)⟩
    ·have hk := hk.lit 12 c13 rfl
     refine sk hk rfl rfl rfl fun a hk => ?_
     refine sk hk rfl rfl rfl fun a hk => ?_
     refine sk hk rfl rfl rfl fun a hk => ?_
     refine sk hk rfl rfl rfl fun a hk => ?_
     refine sv (.bool false) hk rfl rfl rfl fun a hk => ?_
     refine sm _ rfl hk rfl rfl rfl fun a hk => ?_
     refine sk hk rfl rfl rfl fun a hk => ?_
     refine sk hk rfl rfl rfl fun a hk => ?_
     refine sk hk rfl rfl rfl fun a hk => ?_
     refine sv (.bool false) hk rfl rfl rfl fun a hk => ?_
     refine sa _ rfl hk rfl rfl rfl fun a hk => ?_
     show wpList _ _ _ [] _ _
     refine wpList_nil ?_
     obtain rfl := Option.some.inj H
     show R9 _ _
     rw [hR9]
     exact ⟨false, rfl, (hk.c 2 rfl hk.k), (hs.pick [] rfl)⟩
   ·have hk := hk.lit 7 c10 rfl
    refine sk hk rfl rfl rfl fun a hk => ?_
    refine sk hk rfl rfl rfl fun a hk => ?_
    refine sk hk rfl rfl rfl fun a hk => ?_
    refine sv (.bool false) hk rfl rfl rfl fun a hk => ?_
    refine sm _ rfl hk rfl rfl rfl fun a hk => ?_
    refine sk hk rfl rfl rfl fun a hk => ?_
    refine sk hk rfl rfl rfl fun a hk => ?_
    refine sk hk rfl rfl rfl fun a hk => ?_
    refine sk hk rfl rfl rfl fun a hk => ?_
    refine sv (.bool false) hk rfl rfl rfl fun a hk => ?_
    refine sm _ rfl hk rfl rfl rfl fun a hk => ?_
    refine sk hk rfl rfl rfl fun a hk => ?_
    refine sk hk rfl rfl rfl fun a hk => ?_
    refine sk hk rfl rfl rfl fun a hk => ?_
    refine sv (.bool false) hk rfl rfl rfl fun a hk => ?_
    refine sa _ rfl hk rfl rfl rfl fun a hk => ?_
    show wpList _ _ _ [] _ _
    refine wpList_nil ?_
    obtain rfl := Option.some.inj H
    show R9 _ _
    rw [hR9]
    exact ⟨false, rfl, (hk.c 2 rfl hk.k), (hs.pick [] rfl)⟩
  ·intro a w hR0
   rw [hR9] at hR0
   obtain ⟨u5, rfl, hk, hs⟩ := hR0
   have H := HL8
   try dsimp only at H
   refine hK3 _ _ ?_
   refine wp_ret ?_
   obtain rfl := Option.some.inj H
   exact fin hk _ [(.bool u5)] rfl ⟨rfl, trivial⟩ ⟨rfl, (hs.pick [] rfl).dnil⟩

noncomputable def impl_areShort_c1.f (x0 : ByteArray) : Option (Bool) :=
  (some (decide ((x0.size : Int) ≤ 65536)))
set_option maxRecDepth 100000 in
set_option maxHeartbeats 0 in
theorem impl_areShort_c1_t (w0 : World) (x0 : ByteArray) (r : Bool) (H : impl_areShort_c1.f x0 = some r) :
    Calls Try.prog 143 #[.string x0] w0 (Ret (fun v w => v = .bool r ∧ Sat [] w0 w [] [])) := by
  have hs : Sat [] w0 w0 [] [] := Sat.init w0 [] [] (by simp) (by simp) List.nodup_nil (by simp [blks])
  unfold impl_areShort_c1.f at H
  refine enter Try.func143 rfl Try.ntmps143 rfl fun a hk => ?_
  apply wp_seq_k; intro K1 hK1
  apply wp_region_lit
  refine sa _ rfl hk rfl rfl rfl fun a hk => ?_
  show wpList _ _ _ [] _ _
  refine wpList_nil ?_
  refine hK1 _ _ ?_
  apply wp_seq_k; intro K2 hK2
  apply wp_region_lit
  refine sm _ rfl hk rfl rfl rfl fun a hk => ?_
  refine sles rfl hk rfl rfl rfl un9 fun a hk => ?_
  refine sv (.bool (decide ((x0.size : Int) ≤ 65536))) hk rfl rfl rfl fun a hk => ?_
  refine sa _ rfl hk rfl rfl rfl fun a hk => ?_
  show wpList _ _ _ [] _ _
  refine wpList_nil ?_
  refine hK2 _ _ ?_
  refine wp_ret ?_
  obtain rfl := Option.some.inj H
  exact fin hk _ [(.bool (decide ((x0.size : Int) ≤ 65536)))] rfl ⟨rfl, trivial⟩ ⟨rfl, (hs.pick [] rfl).dnil⟩

noncomputable def impl_areShort.f (l0 : List ByteArray) : Option (Bool) :=
  ((impl_areAll_string.f l0 impl_areShort_c1.f).bind fun y3 => (some y3))
set_option maxRecDepth 100000 in
set_option maxHeartbeats 0 in
theorem impl_areShort_t (w0 : World) (A0_ : Option Addr) (p0_ : Nat) (l0 : List ByteArray) (k0_ : Chunk) (v0_ : View Lay.str A0_ p0_ l0 k0_) (w0_ : Has w0 k0_) (r : Bool) (H : impl_areShort.f l0 = some r) :
    Calls Try.prog 86 #[.slice A0_ l0.length p0_] w0 (Ret (fun v w => v = .bool r ∧ Sat [] w0 w [] [])) := by
  have hs : Sat [] w0 w0 [(1, k0_)] [] := Sat.init w0 [(1, k0_)] [] (by simp only [List.mem_cons, List.not_mem_nil, or_false]; rintro x (rfl) <;> assumption) (by simp) List.nodup_nil (by simp [blks])
  unfold impl_areShort.f at H
  refine enter Try.func86 rfl Try.ntmps86 rfl fun a hk => ?_
  apply wp_seq_k; intro K1 hK1
  apply wp_region_lit
  refine sa _ rfl hk rfl rfl rfl fun a hk => ?_
  show wpList _ _ _ [] _ _
  refine wpList_nil ?_
  refine hK1 _ _ ?_
  apply wp_seq_k; intro K2 hK2
  apply wp_region_lit
  refine sm _ rfl hk rfl rfl rfl fun a hk => ?_
  obtain ⟨y3, h4, H⟩ := bind_some H
  refine sc rfl en99 hk rfl rfl rfl (impl_areAll_string_t _ A0_ p0_ l0 _ v0_ (hs.hasD (k := 1) rfl) 143 [] en143 impl_areShort_c1.f [] (fun w _ z0 r h => impl_areShort_c1_t w z0 r h) (Has.nil _) _ h4) ?_
  rintro _ w ⟨rfl, hG⟩ a hk
  have hs := hs.call0 hG
  refine sa _ rfl hk rfl rfl rfl fun a hk => ?_
  show wpList _ _ _ [] _ _
  refine wpList_nil ?_
  refine hK2 _ _ ?_
  refine wp_ret ?_
  obtain rfl := Option.some.inj H
  exact fin hk _ [(.bool y3)] rfl ⟨rfl, trivial⟩ ⟨rfl, (hs.pick [] rfl).dnil⟩

noncomputable def slices_Clone_string_string.f (l0 : List ByteArray) : Option (List ByteArray) :=
  (if l0.length ≤ 1073741824 then (some l0) else none)
set_option maxRecDepth 100000 in
set_option maxHeartbeats 0 in
theorem slices_Clone_string_string_t (w0 : World) (A0_ : Option Addr) (p0_ : Nat) (l0 : List ByteArray) (k0_ : Chunk) (v0_ : View Lay.str A0_ p0_ l0 k0_) (w0_ : Has w0 k0_) (r : List ByteArray) (H : slices_Clone_string_string.f l0 = some r) :
    Calls Try.prog 144 #[.slice A0_ l0.length p0_] w0 (Ret (fun v w => ∃ (A0 : Option Addr) (p0 : Nat) (k0 : Chunk), v = .slice A0 r.length p0 ∧ Own Lay.str 9 A0 p0 r k0 ∧ Sat [] w0 w [] [(0, k0)])) := by
  have hs : Sat [] w0 w0 [(1, k0_)] [] := Sat.init w0 [(1, k0_)] [] (by simp only [List.mem_cons, List.not_mem_nil, or_false]; rintro x (rfl) <;> assumption) (by simp) List.nodup_nil (by simp [blks])
  unfold slices_Clone_string_string.f at H
  rcases ite_some H with ⟨c, H⟩ | ⟨_, H⟩
  rotate_left
  · cases H
  obtain rfl := Option.some.inj H
  refine enter Try.func144 rfl Try.ntmps144 rfl fun a hk => ?_
  apply wp_seq_k; intro K1 hK1
  apply wp_region_lit
  refine sa _ rfl hk rfl rfl rfl fun a hk => ?_
  refine wpList_nil ?_
  refine hK1 _ _ ?_
  apply wp_seq_k; intro K3 hK3
  apply wp_seq_k; intro K2 hK2
  apply wp_region_lit
  refine sm _ rfl hk rfl rfl rfl fun a hk => ?_
  refine snl rfl hk rfl rfl rfl un64 fun a hk => ?_
  refine wpList_nil ?_
  refine hK2 _ _ ?_
  cases A0_ with
  | none =>
    obtain rfl := v0_.none_nil
    refine cnd_true hk rfl rfl ?_
    apply wp_seq_k; intro K4 hK4
    apply wp_region_lit
    refine sa _ rfl hk rfl rfl rfl fun a hk => ?_
    refine wpList_nil ?_
    refine hK4 _ _ ?_
    refine wp_ret ?_
    have hs := hs.addNil 9
    exact fin hk _ [(.slice none 0 0)] rfl ⟨rfl, trivial⟩ ⟨none, 0, [], rfl, Own.nil _ _, (hs.pick [(0, 9)] rfl).dnil⟩
  | some A0_ =>
    refine cnd_false hk rfl rfl ?_
    refine wp_skip ?_
    refine hK3 _ _ ?_
    apply wp_seq_k; intro K5 hK5
    apply wp_region_lit
    refine sbs0 2 Lay.str hs rfl hk rfl rfl un64 sz9 fun b k w a hk o hs => ?_
    refine sm _ rfl hk rfl rfl rfl fun a hk => ?_
    refine sap 2 (xs := ([] : List ByteArray)) (ys := l0) (flat_flat : (Lay.str).Flat) hs rfl o v0_ (hs.hasD (k := 1) rfl) rfl hk rfl rfl rfl rfl rfl rfl un64 mk9 rfl rfl rfl (by simpa using c) fun A p k w a hk o hs => ?_
    refine sa _ rfl hk rfl rfl rfl fun a hk => ?_
    refine wpList_nil ?_
    refine hK5 _ _ ?_
    refine wp_ret ?_
    exact fin hk _ [(.slice A ([] ++ l0).length p)] rfl ⟨rfl, trivial⟩ ⟨A, p, _, rfl, o, (hs.pick [(0, 2)] rfl).dnil⟩

noncomputable def slices_Clone_impl_Io_impl_Io.f (l0 : List S_Io) : Option (List S_Io) :=
  (if l0.length ≤ 1073741824 then (some l0) else none)
set_option maxRecDepth 100000 in
set_option maxHeartbeats 0 in
theorem slices_Clone_impl_Io_impl_Io_t (w0 : World) (A0_ : Option Addr) (p0_ : Nat) (l0 : List S_Io) (k0_ : Chunk) (v0_ : View L_Io A0_ p0_ l0 k0_) (w0_ : Has w0 k0_) (r : List S_Io) (H : slices_Clone_impl_Io_impl_Io.f l0 = some r) :
    Calls Try.prog 145 #[.slice A0_ l0.length p0_] w0 (Ret (fun v w => ∃ (A0 : Option Addr) (p0 : Nat) (k0 : Chunk), v = .slice A0 r.length p0 ∧ Own L_Io 129 A0 p0 r k0 ∧ Sat [] w0 w [] [(0, k0)])) := by
  have hs : Sat [] w0 w0 [(1, k0_)] [] := Sat.init w0 [(1, k0_)] [] (by simp only [List.mem_cons, List.not_mem_nil, or_false]; rintro x (rfl) <;> assumption) (by simp) List.nodup_nil (by simp [blks])
  unfold slices_Clone_impl_Io_impl_Io.f at H
  rcases ite_some H with ⟨c, H⟩ | ⟨_, H⟩
  rotate_left
  · cases H
  obtain rfl := Option.some.inj H
  refine enter Try.func145 rfl Try.ntmps145 rfl fun a hk => ?_
  apply wp_seq_k; intro K1 hK1
  apply wp_region_lit
  refine sa _ rfl hk rfl rfl rfl fun a hk => ?_
  refine wpList_nil ?_
  refine hK1 _ _ ?_
  apply wp_seq_k; intro K3 hK3
  apply wp_seq_k; intro K2 hK2
  apply wp_region_lit
  refine sm _ rfl hk rfl rfl rfl fun a hk => ?_
  refine snl rfl hk rfl rfl rfl un65 fun a hk => ?_
  refine wpList_nil ?_
  refine hK2 _ _ ?_
  cases A0_ with
  | none =>
    obtain rfl := v0_.none_nil
    refine cnd_true hk rfl rfl ?_
    apply wp_seq_k; intro K4 hK4
    apply wp_region_lit
    refine sa _ rfl hk rfl rfl rfl fun a hk => ?_
    refine wpList_nil ?_
    refine hK4 _ _ ?_
    refine wp_ret ?_
    have hs := hs.addNil 9
    exact fin hk _ [(.slice none 0 0)] rfl ⟨rfl, trivial⟩ ⟨none, 0, [], rfl, Own.nil _ _, (hs.pick [(0, 9)] rfl).dnil⟩
  | some A0_ =>
    refine cnd_false hk rfl rfl ?_
    refine wp_skip ?_
    refine hK3 _ _ ?_
    apply wp_seq_k; intro K5 hK5
    apply wp_region_lit
    refine sbs0 2 L_Io hs rfl hk rfl rfl un65 sz129 fun b k w a hk o hs => ?_
    refine sm _ rfl hk rfl rfl rfl fun a hk => ?_
    refine sap 2 (xs := ([] : List S_Io)) (ys := l0) (flat_flat : (L_Io).Flat) hs rfl o v0_ (hs.hasD (k := 1) rfl) rfl hk rfl rfl rfl rfl rfl rfl un65 mk129 rfl rfl rfl (by simpa using c) fun A p k w a hk o hs => ?_
    refine sa _ rfl hk rfl rfl rfl fun a hk => ?_
    refine wpList_nil ?_
    refine hK5 _ _ ?_
    refine wp_ret ?_
    exact fin hk _ [(.slice A ([] ++ l0).length p)] rfl ⟨rfl, trivial⟩ ⟨A, p, _, rfl, o, (hs.pick [(0, 2)] rfl).dnil⟩

noncomputable def impl_Device_own.f (x0 : S_Device) : Option (S_Device) :=
  ((slices_Clone_string_string.f x0.Sure).bind fun y6 => ((slices_Clone_impl_Io_impl_Io.f x0.Unsure).bind fun y12 => (some (⟨y6, y12⟩ : S_Device))))
set_option maxRecDepth 100000 in
set_option maxHeartbeats 0 in
theorem impl_Device_own_t (w0 : World) (x0 : S_Device) (A0_0 : Option Addr) (p0_0 : Nat) (k0_0 : Chunk) (v0_0 : View Lay.str A0_0 p0_0 x0.Sure k0_0) (w0_0 : Has w0 k0_0) (A0_1 : Option Addr) (p0_1 : Nat) (k0_1 : Chunk) (v0_1 : View L_Io A0_1 p0_1 x0.Unsure k0_1) (w0_1 : Has w0 k0_1) (r : S_Device) (H : impl_Device_own.f x0 = some r) :
    Calls Try.prog 89 #[.agg #[.slice A0_0 x0.Sure.length p0_0, .slice A0_1 x0.Unsure.length p0_1]] w0 (Ret (fun v w => ∃ (A0 : Option Addr) (p0 : Nat) (k0 : Chunk), ∃ (A1 : Option Addr) (p1 : Nat) (k1 : Chunk), v = .agg #[.slice A0 r.Sure.length p0, .slice A1 r.Unsure.length p1] ∧ Own Lay.str 9 A0 p0 r.Sure k0 ∧ Own L_Io 129 A1 p1 r.Unsure k1 ∧ Sat [] w0 w [] [(0, k0), (1, k1)])) := by
  have hs : Sat [] w0 w0 [(1, k0_0), (2, k0_1)] [] := Sat.init w0 [(1, k0_0), (2, k0_1)] [] (by simp only [List.mem_cons, List.not_mem_nil, or_false]; rintro x (rfl | rfl) <;> assumption) (by simp) List.nodup_nil (by simp [blks])
  unfold impl_Device_own.f at H
  refine enter Try.func89 rfl Try.ntmps89 rfl fun a hk => ?_
  apply wp_seq_k; intro K1 hK1
  apply wp_region_lit
  refine sbx 3 hs rfl hk rfl rfl rfl rfl fun b2 w a hk hs => ?_
  refine salx 4 hs rfl hk rfl rfl ze67 rfl fun b3 w a hk hs => ?_
  show wpList _ _ _ [] _ _
  refine wpList_nil ?_
  refine hK1 _ _ ?_
  apply wp_seq_k; intro K4 hK4
  refine wp_region_tree (.q 0 (.q 1 (.q 3 (.q 4 (.alt 2 (.alt 5 (.alt 6 (.last 7) .stop) .stop) .stop))))) mo (by kernel_rfl) (hs.pick [(4, 4), (3, 3)] rfl) fun _ => ?_
  have hs := hs.drew
  refine tqst (.pointer (some ⟨b2, 0, none⟩)) hk rfl rfl rfl rfl (fun w hs => sf ⟨b2, 0, none⟩ rfl hk rfl rfl rfl fd67_0 rfl fun a hk => qe hk) fun a hk => ?_
  refine tqst (.slice A0_0 x0.Sure.length p0_0) hk rfl rfl rfl rfl (fun w hs => sl rfl hk rfl rfl rfl ag64 (box_cell hs (k := 3) rfl rfl) fun a hk => qe hk) fun a hk => ?_
  refine tqst (.pointer (some ⟨b2, 1, none⟩)) hk rfl rfl rfl rfl (fun w hs => sf ⟨b2, 1, none⟩ rfl hk rfl rfl rfl fd67_1 rfl fun a hk => qe hk) fun a hk => ?_
  refine tqst (.slice A0_1 x0.Unsure.length p0_1) hk rfl rfl rfl rfl (fun w hs => sl rfl hk rfl rfl rfl ag65 (box_cell hs (k := 3) rfl rfl) fun a hk => qe hk) fun a hk => ?_
  refine tsst hk rfl rfl (fun K_r5_2 hK_r5_2 w hF => ?_) wt_stop
  have hs := hs.f hF
  obtain ⟨y6, h7, H⟩ := bind_some H
  refine sc rfl en144 hk rfl rfl rfl (slices_Clone_string_string_t _ A0_0 p0_0 x0.Sure _ v0_0 (hs.hasD (k := 1) rfl) _ h7) ?_
  rintro _ w ⟨A8, p9, k10, rfl, o11, hG⟩ a hk
  have hs := hs.call0k hG [6] rfl
  refine se (hs.pick [(4, 4), (3, 3)] rfl) hk (hK_r5_2 _ _ ?_)
  refine tsst hk rfl rfl (fun K_r5_5 hK_r5_5 w hF => ?_) wt_stop
  have hs := hs.f hF
  obtain ⟨y12, h13, H⟩ := bind_some H
  refine sc rfl en145 hk rfl rfl rfl (slices_Clone_impl_Io_impl_Io_t _ A0_1 p0_1 x0.Unsure _ v0_1 (hs.hasD (k := 2) rfl) _ h13) ?_
  rintro _ w ⟨A14, p15, k16, rfl, o17, hG⟩ a hk
  have hs := hs.call0k hG [7] rfl
  refine se (hs.pick [(4, 4), (3, 3)] rfl) hk (hK_r5_5 _ _ ?_)
  refine tsst hk rfl rfl (fun K_r5_6 hK_r5_6 w hF => ?_) wt_stop
  have hs := hs.f hF
  refine sbd (pv := [(0, (.slice A8 y6.length p9)), (1, (.slice A14 y12.length p15))]) rfl hk rfl rfl rfl (bd67_2 A8 y6.length p9 A14 y12.length p15) fun a hk => ?_
  refine se (hs.pick [(4, 4), (3, 3)] rfl) hk (hK_r5_6 _ _ ?_)
  refine tlst hk rfl rfl fun K_r5_7 hK_r5_7 w hF => ?_
  have hs := hs.f hF
  refine ssw 4 hs rfl rfl hk rfl rfl rfl rfl sz67 (by simp [Value.oneCell']) rfl fun w a hk hs => ?_
  refine se trivial hk (hK_r5_7 _ _ fun w hF => ?_)
  have hs := hs.f hF
  refine hK4 _ _ ?_
  refine wp_ret ?_
  obtain rfl := Option.some.inj H
  exact fin hk _ [(.agg #[.slice A8 y6.length p9, .slice A14 y12.length p15])] rfl ⟨⟨_, rfl, run_loadN ag67 sz67 (box_cells hs (k := 4) rfl)⟩, trivial⟩ ⟨A8, p9, _, A14, p15, _, rfl, o11, o17, (hs.pick [(0, 6), (1, 7)] rfl).dnil⟩

noncomputable def impl_Device_write.f (x0 : S_Device) (x1 : Int) (x2 : ByteArray) : Option (S_Device) :=
  ((impl_Device_own.f x0).bind fun y5 => (if y5.Unsure.length + ([(⟨x1, x2⟩ : S_Io)]).length ≤ 1073741824 then (some (⟨y5.Sure, (y5.Unsure ++ ([(⟨x1, x2⟩ : S_Io)]))⟩ : S_Device)) else none))
set_option maxRecDepth 100000 in
set_option maxHeartbeats 0 in
theorem impl_Device_write_t (w0 : World) (x0 : S_Device) (A0_0 : Option Addr) (p0_0 : Nat) (k0_0 : Chunk) (v0_0 : View Lay.str A0_0 p0_0 x0.Sure k0_0) (w0_0 : Has w0 k0_0) (A0_1 : Option Addr) (p0_1 : Nat) (k0_1 : Chunk) (v0_1 : View L_Io A0_1 p0_1 x0.Unsure k0_1) (w0_1 : Has w0 k0_1) (x1 : Int) (x2 : ByteArray) (r : S_Device) (H : impl_Device_write.f x0 x1 x2 = some r) :
    Calls Try.prog 90 #[.agg #[.slice A0_0 x0.Sure.length p0_0, .slice A0_1 x0.Unsure.length p0_1], .int .i64 x1, .string x2] w0 (Ret (fun v w => ∃ (A0 : Option Addr) (p0 : Nat) (k0 : Chunk), ∃ (A1 : Option Addr) (p1 : Nat) (k1 : Chunk), v = .agg #[.slice A0 r.Sure.length p0, .slice A1 r.Unsure.length p1] ∧ Own Lay.str 9 A0 p0 r.Sure k0 ∧ Own L_Io 129 A1 p1 r.Unsure k1 ∧ Sat [] w0 w [] [(0, k0), (1, k1)])) := by
  have hs : Sat [] w0 w0 [(1, k0_0), (2, k0_1)] [] := Sat.init w0 [(1, k0_0), (2, k0_1)] [] (by simp only [List.mem_cons, List.not_mem_nil, or_false]; rintro x (rfl | rfl) <;> assumption) (by simp) List.nodup_nil (by simp [blks])
  unfold impl_Device_write.f at H
  refine enter Try.func90 rfl Try.ntmps90 rfl fun a hk => ?_
  apply wp_seq_k; intro K1 hK1
  apply wp_region_lit
  refine sbx 3 hs rfl hk rfl rfl rfl rfl fun b2 w a hk hs => ?_
  refine salx 4 hs rfl hk rfl rfl ze67 rfl fun b3 w a hk hs => ?_
  show wpList _ _ _ [] _ _
  refine wpList_nil ?_
  refine hK1 _ _ ?_
  apply wp_seq_k; intro K4 hK4
  apply wp_region_lit
  refine sln [.slice A0_0 x0.Sure.length p0_0, .slice A0_1 x0.Unsure.length p0_1] rfl hk rfl rfl rfl ag67 sz67 (box_cells hs (k := 3) rfl) fun a hk => ?_
  obtain ⟨y5, h6, H⟩ := bind_some H
  refine sc rfl en89 hk rfl rfl rfl (impl_Device_own_t _ x0 A0_0 p0_0 _ v0_0 (hs.hasD (k := 1) rfl) A0_1 p0_1 _ v0_1 (hs.hasD (k := 2) rfl) _ h6) ?_
  rintro _ w ⟨A7, p8, k9, A11, p12, k13, rfl, o10, o14, hG⟩ a hk
  have hs := hs.call0k hG [5, 6] rfl
  refine salx 7 hs rfl hk rfl rfl ze67 rfl fun b15 w a hk hs => ?_
  refine ssw 7 hs rfl rfl hk rfl rfl rfl rfl sz67 (by simp [Value.oneCell']) rfl fun w a hk hs => ?_
  show wpList _ _ _ [] _ _
  refine wpList_nil ?_
  refine hK4 _ _ ?_
  apply wp_seq_k; intro K16 hK16
  apply wp_region_lit
  refine sf ⟨b15, 1, none⟩ rfl hk rfl rfl rfl fd67_1 rfl fun a hk => ?_
  refine sl rfl hk rfl rfl rfl ag65 (box_cell hs (k := 7) rfl rfl) fun a hk => ?_
  refine sm _ rfl hk rfl rfl rfl fun a hk => ?_
  refine sm _ rfl hk rfl rfl rfl fun a hk => ?_
  refine sbd (pv := [(0, (.int .i64 x1)), (1, (.string x2))]) rfl hk rfl rfl rfl (bd129_3 x1 x2) fun a hk => ?_
  refine sbs (L := L_Io) (pv := [(0, (.agg #[.int .i64 x1, .string x2]))]) (xs := [(⟨x1, x2⟩ : S_Io)]) (ess := [[.int .i64 x1, .string x2]]) 8 hs rfl hk rfl rfl rfl un65 (bs129_4 x1 x2) (AllOwn.cons0 ⟨rfl, rfl⟩ AllOwn.nil) rfl rfl rfl fun b17 k18 w a hk o19 hs => ?_
  rcases ite_some H with ⟨c20, H⟩ | ⟨_, H⟩
  rotate_left
  ·cases H
  refine sap 6 (xs := y5.Unsure) (ys := [(⟨x1, x2⟩ : S_Io)]) (flat_flat : (L_Io).Flat) hs rfl o14 o19.view (hs.hasG (k := 8) rfl) rfl hk rfl rfl rfl rfl rfl rfl un65 mk129 rfl rfl rfl c20 fun A21 p22 k23 w a hk o24 hs => ?_
  refine sf ⟨b15, 1, none⟩ rfl hk rfl rfl rfl fd67_1 rfl fun a hk => ?_
  refine ssx (cs' := #[.slice A7 y5.Sure.length p8, .slice A21 (y5.Unsure ++ ([(⟨x1, x2⟩ : S_Io)])).length p22]) 7 hs rfl rfl hk rfl rfl rfl rfl sz65 rfl rfl rfl rfl fun w a hk hs => ?_
  show wpList _ _ _ [] _ _
  refine wpList_nil ?_
  refine hK16 _ _ ?_
  apply wp_seq_k; intro K25 hK25
  apply wp_region_lit
  refine sln [.slice A7 y5.Sure.length p8, .slice A21 (y5.Unsure ++ ([(⟨x1, x2⟩ : S_Io)])).length p22] rfl hk rfl rfl rfl ag67 sz67 (box_cells hs (k := 7) rfl) fun a hk => ?_
  refine ssw 4 hs rfl rfl hk rfl rfl rfl rfl sz67 (by simp [Value.oneCell']) rfl fun w a hk hs => ?_
  show wpList _ _ _ [] _ _
  refine wpList_nil ?_
  refine hK25 _ _ ?_
  have hs := hs.pick [(4, 4), (5, 5), (6, 6)] rfl
  refine wp_ret ?_
  obtain rfl := Option.some.inj H
  exact fin hk _ [(.agg #[.slice A7 y5.Sure.length p8, .slice A21 (y5.Unsure ++ ([(⟨x1, x2⟩ : S_Io)])).length p22])] rfl ⟨⟨_, rfl, run_loadN ag67 sz67 (box_cells hs (k := 4) rfl)⟩, trivial⟩ ⟨A7, p8, _, A21, p22, _, rfl, o10, o24, (hs.pick [(0, 5), (1, 6)] rfl).dnil⟩

noncomputable def impl_WriteAt.f (x0 : S_Device) (x1 : Int) (x2 : ByteArray) : Option (S_Device × Int) :=
  ((impl_areShort.f ([x2])).bind fun y9 => (bif (!y9) then (some ((⟨([] : List ByteArray), ([] : List S_Io)⟩ : S_Device), 2)) else ((impl_DeviceOK.f x0).bind fun y14 => (bif (!y14) then (some ((⟨([] : List ByteArray), ([] : List S_Io)⟩ : S_Device), 1)) else ((impl_isSector.f x1).bind fun y19 => (bif (!y19) then (some ((⟨([] : List ByteArray), ([] : List S_Io)⟩ : S_Device), 4)) else ((impl_isContent.f x2).bind fun y24 => (bif (!y24) then ((impl_Device_own.f x0).bind fun y28 => (some (y28, 8))) else (bif ((x0.Unsure.length : Int) == 60) then ((impl_Device_own.f x0).bind fun y41 => (some (y41, 7))) else ((impl_Device_write.f x0 x1 x2).bind fun y52 => (some (y52, 0))))))))))))
set_option maxRecDepth 100000 in
set_option maxHeartbeats 0 in
theorem impl_WriteAt_t (w0 : World) (x0 : S_Device) (A0_0 : Option Addr) (p0_0 : Nat) (k0_0 : Chunk) (v0_0 : View Lay.str A0_0 p0_0 x0.Sure k0_0) (w0_0 : Has w0 k0_0) (A0_1 : Option Addr) (p0_1 : Nat) (k0_1 : Chunk) (v0_1 : View L_Io A0_1 p0_1 x0.Unsure k0_1) (w0_1 : Has w0 k0_1) (x1 : Int) (x2 : ByteArray) (r : S_Device × Int) (H : impl_WriteAt.f x0 x1 x2 = some r) :
    Calls Try.prog 39 #[.agg #[.slice A0_0 x0.Sure.length p0_0, .slice A0_1 x0.Unsure.length p0_1], .int .i64 x1, .string x2] w0 (Ret (fun v w => ∃ (A0 : Option Addr) (p0 : Nat) (k0 : Chunk), ∃ (A1 : Option Addr) (p1 : Nat) (k1 : Chunk), v = .tuple #[.agg #[.slice A0 r.1.Sure.length p0, .slice A1 r.1.Unsure.length p1], .int .i64 r.2] ∧ Own Lay.str 9 A0 p0 r.1.Sure k0 ∧ Own L_Io 129 A1 p1 r.1.Unsure k1 ∧ Sat [] w0 w [] [(0, k0), (1, k1)])) := by
  have hs : Sat [] w0 w0 [(1, k0_0), (2, k0_1)] [] := Sat.init w0 [(1, k0_0), (2, k0_1)] [] (by simp only [List.mem_cons, List.not_mem_nil, or_false]; rintro x (rfl | rfl) <;> assumption) (by simp) List.nodup_nil (by simp [blks])
  unfold impl_WriteAt.f at H
  refine enter Try.func39 rfl Try.ntmps39 rfl fun a hk => ?_
  apply wp_seq_k; intro K1 hK1
  apply wp_region_lit
  refine sbx 3 hs rfl hk rfl rfl rfl rfl fun b2 w a hk hs => ?_
  refine salx 4 hs rfl hk rfl rfl ze67 rfl fun b3 w a hk hs => ?_
  refine sa _ rfl hk rfl rfl rfl fun a hk => ?_
  show wpList _ _ _ [] _ _
  refine wpList_nil ?_
  refine hK1 _ _ ?_
  apply wp_seq_k; intro K4 hK4
  refine wp_block ?_
  apply wp_seq_k; intro K5 hK5
  apply wp_region_lit
  refine sm _ rfl hk rfl rfl rfl fun a hk => ?_
  refine sbs (L := Lay.str) (pv := [(0, (.string x2))]) (xs := [x2]) (ess := [[.string x2]]) 5 hs rfl hk rfl rfl rfl un64 (bs9_5 x2) (AllOwn.cons0 ⟨rfl, rfl⟩ AllOwn.nil) rfl rfl rfl fun b6 k7 w a hk o8 hs => ?_
  obtain ⟨y9, h10, H⟩ := bind_some H
  refine sc rfl en86 hk rfl rfl rfl (impl_areShort_t _ (some ⟨b6, 0, none⟩) 1 ([x2]) _ o8.view (hs.hasG (k := 5) rfl) _ h10) ?_
  rintro _ w ⟨rfl, hG⟩ a hk
  have hs := hs.call0 hG
  refine sv (.bool (!y9)) hk rfl rfl rfl fun a hk => ?_
  refine sa _ rfl hk rfl rfl rfl fun a hk => ?_
  show wpList _ _ _ [] _ _
  refine wpList_nil ?_
  refine hK5 _ _ ?_
  rcases cond_some H with ⟨c11, H⟩ | ⟨c11, H⟩
  ·have hk := hk.lit 8 c11 rfl
   refine cnd_true hk rfl rfl ?_
   apply wp_seq_k; intro K12 hK12
   apply wp_region_lit
   refine sbd (pv := []) rfl hk rfl rfl rfl bd67_6 fun a hk => ?_
   refine ssw 4 hs rfl rfl hk rfl rfl rfl rfl sz67 (by simp [Value.oneCell']) rfl fun w a hk hs => ?_
   refine sa _ rfl hk rfl rfl rfl fun a hk => ?_
   show wpList _ _ _ [] _ _
   refine wpList_nil ?_
   refine hK12 _ _ ?_
   refine wp_ret ?_
   obtain rfl := Option.some.inj H
   have hs := hs.addNil 6
   have hs := hs.addNil 7
   exact fin hk _ [(.agg #[.slice none 0 0, .slice none 0 0]), (.int .i64 2)] rfl ⟨⟨_, rfl, run_loadN ag67 sz67 (box_cells hs (k := 4) rfl)⟩, ⟨rfl, trivial⟩⟩ ⟨none, 0, [], none, 0, [], rfl, Own.nil _ _, Own.nil _ _, (hs.pick [(0, 6), (1, 7)] rfl).dnil⟩
  ·have hk := hk.lit 8 c11 rfl
   refine cnd_false hk rfl rfl ?_
   apply wp_seq_k; intro K13 hK13
   apply wp_region_lit
   refine sln [.slice A0_0 x0.Sure.length p0_0, .slice A0_1 x0.Unsure.length p0_1] rfl hk rfl rfl rfl ag67 sz67 (box_cells hs (k := 3) rfl) fun a hk => ?_
   obtain ⟨y14, h15, H⟩ := bind_some H
   refine sc rfl en47 hk rfl rfl rfl (impl_DeviceOK_t _ x0 A0_0 p0_0 _ v0_0 (hs.hasD (k := 1) rfl) A0_1 p0_1 _ v0_1 (hs.hasD (k := 2) rfl) _ h15) ?_
   rintro _ w ⟨rfl, hG⟩ a hk
   have hs := hs.call0 hG
   refine sv (.bool (!y14)) hk rfl rfl rfl fun a hk => ?_
   refine sa _ rfl hk rfl rfl rfl fun a hk => ?_
   show wpList _ _ _ [] _ _
   refine wpList_nil ?_
   refine hK13 _ _ ?_
   rcases cond_some H with ⟨c16, H⟩ | ⟨c16, H⟩
   ·have hk := hk.lit 14 c16 rfl
    refine cnd_true hk rfl rfl ?_
    apply wp_seq_k; intro K17 hK17
    apply wp_region_lit
    refine sbd (pv := []) rfl hk rfl rfl rfl bd67_6 fun a hk => ?_
    refine ssw 4 hs rfl rfl hk rfl rfl rfl rfl sz67 (by simp [Value.oneCell']) rfl fun w a hk hs => ?_
    refine sa _ rfl hk rfl rfl rfl fun a hk => ?_
    show wpList _ _ _ [] _ _
    refine wpList_nil ?_
    refine hK17 _ _ ?_
    have hs := hs.pick [(4, 4)] rfl
    refine wp_ret ?_
    obtain rfl := Option.some.inj H
    have hs := hs.addNil 8
    have hs := hs.addNil 9
    exact fin hk _ [(.agg #[.slice none 0 0, .slice none 0 0]), (.int .i64 1)] rfl ⟨⟨_, rfl, run_loadN ag67 sz67 (box_cells hs (k := 4) rfl)⟩, ⟨rfl, trivial⟩⟩ ⟨none, 0, [], none, 0, [], rfl, Own.nil _ _, Own.nil _ _, (hs.pick [(0, 8), (1, 9)] rfl).dnil⟩
   ·have hk := hk.lit 14 c16 rfl
    refine cnd_false hk rfl rfl ?_
    apply wp_seq_k; intro K18 hK18
    apply wp_region_lit
    refine sm _ rfl hk rfl rfl rfl fun a hk => ?_
    obtain ⟨y19, h20, H⟩ := bind_some H
    refine sc rfl en87 hk rfl rfl rfl (impl_isSector_t _ x1 _ h20) ?_
    rintro _ w ⟨rfl, hG⟩ a hk
    have hs := hs.call0 hG
    refine sv (.bool (!y19)) hk rfl rfl rfl fun a hk => ?_
    refine sa _ rfl hk rfl rfl rfl fun a hk => ?_
    show wpList _ _ _ [] _ _
    refine wpList_nil ?_
    refine hK18 _ _ ?_
    have hs := hs.pick [(3, 3), (4, 4)] rfl
    rcases cond_some H with ⟨c21, H⟩ | ⟨c21, H⟩
    ·have hk := hk.lit 19 c21 rfl
     refine cnd_true hk rfl rfl ?_
     apply wp_seq_k; intro K22 hK22
     apply wp_region_lit
     refine sbd (pv := []) rfl hk rfl rfl rfl bd67_6 fun a hk => ?_
     refine ssw 4 hs rfl rfl hk rfl rfl rfl rfl sz67 (by simp [Value.oneCell']) rfl fun w a hk hs => ?_
     refine sa _ rfl hk rfl rfl rfl fun a hk => ?_
     show wpList _ _ _ [] _ _
     refine wpList_nil ?_
     refine hK22 _ _ ?_
     refine wp_ret ?_
     obtain rfl := Option.some.inj H
     have hs := hs.addNil 10
     have hs := hs.addNil 11
     exact fin hk _ [(.agg #[.slice none 0 0, .slice none 0 0]), (.int .i64 4)] rfl ⟨⟨_, rfl, run_loadN ag67 sz67 (box_cells hs (k := 4) rfl)⟩, ⟨rfl, trivial⟩⟩ ⟨none, 0, [], none, 0, [], rfl, Own.nil _ _, Own.nil _ _, (hs.pick [(0, 10), (1, 11)] rfl).dnil⟩
    ·have hk := hk.lit 19 c21 rfl
     refine cnd_false hk rfl rfl ?_
     apply wp_seq_k; intro K23 hK23
     apply wp_region_lit
     refine sm _ rfl hk rfl rfl rfl fun a hk => ?_
     obtain ⟨y24, h25, H⟩ := bind_some H
     refine sc rfl en88 hk rfl rfl rfl (impl_isContent_t _ x2 _ h25) ?_
     rintro _ w ⟨rfl, hG⟩ a hk
     have hs := hs.call0 hG
     refine sv (.bool (!y24)) hk rfl rfl rfl fun a hk => ?_
     refine sa _ rfl hk rfl rfl rfl fun a hk => ?_
     show wpList _ _ _ [] _ _
     refine wpList_nil ?_
     refine hK23 _ _ ?_
     rcases cond_some H with ⟨c26, H⟩ | ⟨c26, H⟩
     ·have hk := hk.lit 24 c26 rfl
      refine cnd_true hk rfl rfl ?_
      apply wp_seq_k; intro K27 hK27
      apply wp_region_lit
      refine sln [.slice A0_0 x0.Sure.length p0_0, .slice A0_1 x0.Unsure.length p0_1] rfl hk rfl rfl rfl ag67 sz67 (box_cells hs (k := 3) rfl) fun a hk => ?_
      obtain ⟨y28, h29, H⟩ := bind_some H
      refine sc rfl en89 hk rfl rfl rfl (impl_Device_own_t _ x0 A0_0 p0_0 _ v0_0 (hs.hasD (k := 1) rfl) A0_1 p0_1 _ v0_1 (hs.hasD (k := 2) rfl) _ h29) ?_
      rintro _ w ⟨A30, p31, k32, A34, p35, k36, rfl, o33, o37, hG⟩ a hk
      have hs := hs.call0k hG [12, 13] rfl
      refine ssw 4 hs rfl rfl hk rfl rfl rfl rfl sz67 (by simp [Value.oneCell']) rfl fun w a hk hs => ?_
      refine sa _ rfl hk rfl rfl rfl fun a hk => ?_
      show wpList _ _ _ [] _ _
      refine wpList_nil ?_
      refine hK27 _ _ ?_
      refine wp_ret ?_
      obtain rfl := Option.some.inj H
      exact fin hk _ [(.agg #[.slice A30 y28.Sure.length p31, .slice A34 y28.Unsure.length p35]), (.int .i64 8)] rfl ⟨⟨_, rfl, run_loadN ag67 sz67 (box_cells hs (k := 4) rfl)⟩, ⟨rfl, trivial⟩⟩ ⟨A30, p31, _, A34, p35, _, rfl, o33, o37, (hs.pick [(0, 12), (1, 13)] rfl).dnil⟩
     ·have hk := hk.lit 24 c26 rfl
      refine cnd_false hk rfl rfl ?_
      apply wp_seq_k; intro K38 hK38
      apply wp_region_lit
      refine sf ⟨b2, 1, none⟩ rfl hk rfl rfl rfl fd67_1 rfl fun a hk => ?_
      refine sl rfl hk rfl rfl rfl ag65 (box_cell hs (k := 3) rfl rfl) fun a hk => ?_
      refine sle rfl hk rfl rfl rfl un65 fun a hk => ?_
      refine sv (.bool ((x0.Unsure.length : Int) == 60)) hk rfl rfl rfl fun a hk => ?_
      refine sa _ rfl hk rfl rfl rfl fun a hk => ?_
      show wpList _ _ _ [] _ _
      refine wpList_nil ?_
      refine hK38 _ _ ?_
      rcases cond_some H with ⟨c39, H⟩ | ⟨c39, H⟩
      ·have hk := hk.lit 30 c39 rfl
       refine cnd_true hk rfl rfl ?_
       apply wp_seq_k; intro K40 hK40
       apply wp_region_lit
       refine sln [.slice A0_0 x0.Sure.length p0_0, .slice A0_1 x0.Unsure.length p0_1] rfl hk rfl rfl rfl ag67 sz67 (box_cells hs (k := 3) rfl) fun a hk => ?_
       obtain ⟨y41, h42, H⟩ := bind_some H
       refine sc rfl en89 hk rfl rfl rfl (impl_Device_own_t _ x0 A0_0 p0_0 _ v0_0 (hs.hasD (k := 1) rfl) A0_1 p0_1 _ v0_1 (hs.hasD (k := 2) rfl) _ h42) ?_
       rintro _ w ⟨A43, p44, k45, A47, p48, k49, rfl, o46, o50, hG⟩ a hk
       have hs := hs.call0k hG [14, 15] rfl
       refine ssw 4 hs rfl rfl hk rfl rfl rfl rfl sz67 (by simp [Value.oneCell']) rfl fun w a hk hs => ?_
       refine sa _ rfl hk rfl rfl rfl fun a hk => ?_
       show wpList _ _ _ [] _ _
       refine wpList_nil ?_
       refine hK40 _ _ ?_
       refine wp_ret ?_
       obtain rfl := Option.some.inj H
       exact fin hk _ [(.agg #[.slice A43 y41.Sure.length p44, .slice A47 y41.Unsure.length p48]), (.int .i64 7)] rfl ⟨⟨_, rfl, run_loadN ag67 sz67 (box_cells hs (k := 4) rfl)⟩, ⟨rfl, trivial⟩⟩ ⟨A43, p44, _, A47, p48, _, rfl, o46, o50, (hs.pick [(0, 14), (1, 15)] rfl).dnil⟩
      ·have hk := hk.lit 30 c39 rfl
       refine cnd_false hk rfl rfl ?_
       refine wp_skip ?_
       refine hK4 _ _ ?_
       apply wp_seq_k; intro K51 hK51
       apply wp_region_lit
       refine sln [.slice A0_0 x0.Sure.length p0_0, .slice A0_1 x0.Unsure.length p0_1] rfl hk rfl rfl rfl ag67 sz67 (box_cells hs (k := 3) rfl) fun a hk => ?_
       refine sm _ rfl hk rfl rfl rfl fun a hk => ?_
       refine sm _ rfl hk rfl rfl rfl fun a hk => ?_
       obtain ⟨y52, h53, H⟩ := bind_some H
       refine sc rfl en90 hk rfl rfl rfl (impl_Device_write_t _ x0 A0_0 p0_0 _ v0_0 (hs.hasD (k := 1) rfl) A0_1 p0_1 _ v0_1 (hs.hasD (k := 2) rfl) x1 x2 _ h53) ?_
       rintro _ w ⟨A54, p55, k56, A58, p59, k60, rfl, o57, o61, hG⟩ a hk
       have hs := hs.call0k hG [16, 17] rfl
       refine ssw 4 hs rfl rfl hk rfl rfl rfl rfl sz67 (by simp [Value.oneCell']) rfl fun w a hk hs => ?_
       refine sa _ rfl hk rfl rfl rfl fun a hk => ?_
       show wpList _ _ _ [] _ _
       refine wpList_nil ?_
       refine hK51 _ _ ?_
       have hs := hs.pick [(4, 4), (16, 16), (17, 17)] rfl
       refine wp_ret ?_
       obtain rfl := Option.some.inj H
       exact fin hk _ [(.agg #[.slice A54 y52.Sure.length p55, .slice A58 y52.Unsure.length p59]), (.int .i64 0)] rfl ⟨⟨_, rfl, run_loadN ag67 sz67 (box_cells hs (k := 4) rfl)⟩, ⟨rfl, trivial⟩⟩ ⟨A54, p55, _, A58, p59, _, rfl, o57, o61, (hs.pick [(0, 16), (1, 17)] rfl).dnil⟩


set_option maxRecDepth 100000 in
set_option maxHeartbeats 1000000 in
theorem slices_Backward_impl_Io_impl_Io_t (w0 : World) (A : Option Addr) (p : Nat) (l : List S_Io) (c : Chunk) (v : View L_Io A p l c) (hw : Has w0 c) : Calls Try.prog 91 #[.slice A l.length p] w0 (Ret (fun v w => ∃ b, v = .func (.func 146) #[] #[.pointer (some ⟨b, 0, none⟩)] ∧ Sat [] w0 w [] [(0, [(b, .cells #[.slice A l.length p] 65 (0, 0))])])) := by
  have hs : Sat [] w0 w0 [] [] := F.refl w0
  refine enter Try.func91 rfl Try.ntmps91 rfl fun a hk => ?_
  apply wp_seq_k; intro K1 hK1
  apply wp_region_lit
  refine sbx 1 hs rfl hk rfl rfl rfl rfl fun b w a hk hs => ?_
  refine sa _ rfl hk rfl rfl rfl fun a hk => ?_
  refine wpList_nil ?_
  refine hK1 _ _ ?_
  apply wp_seq_k; intro K2 hK2
  apply wp_region_lit
  refine smf (cs := [.pointer (some ⟨b, 0, none⟩)]) rfl hk rfl rfl rfl fun a hk => ?_
  refine sa _ rfl hk rfl rfl rfl fun a hk => ?_
  refine wpList_nil ?_
  refine hK2 _ _ ?_
  refine wp_ret ?_
  exact fin hk _ [_] rfl ⟨rfl, trivial⟩ ⟨b, rfl, (hs.pick [(0, 1)] rfl)⟩
set_option maxRecDepth 100000 in
set_option maxHeartbeats 1000000 in
theorem slices_Backward_impl_Io_impl_Io_seq (b : Nat) (A : Option Addr) (p : Nat) (l : List S_Io) (c : Chunk) (v : View L_Io A p l c) : SeqCnt Try.prog 146 b ([(b, .cells #[.slice A l.length p] 65 (0, 0))] ++ c) (fun k => #[.int .i64 ((l.length : Int) - 1 - (k : Int)), .agg #[.int .i64 ((l.getD (l.length - 1 - k) z_Io).At), .string ((l.getD (l.length - 1 - k) z_Io).Data)]]) l.length := by
  intro y J Jx W hHas hY h0
  have hle := v.le
  have htop := v.top
  have hmx : maxLen = 9223372036854775807 := rfl
  refine enterI (args := [.func (.yield y) #[] #[], .pointer (some ⟨b, 0, none⟩)]) Try.func146 rfl Try.ntmps146 rfl fun a hk => ?_
  apply wpIn_seq_k; intro K1 hK1
  refine wpIn_wide.2 ?_
  apply wp_region_lit
  refine sl (v := .slice A l.length p) rfl hk rfl rfl rfl ag65 (box_has (hHas 0 W h0)) fun a hk => ?_
  refine sle rfl hk rfl rfl rfl un65 fun a hk => ?_
  refine sv (.int .i64 (w64 ((l.length : Int) - 1))) hk rfl rfl rfl fun a hk => ?_
  refine sa _ rfl hk rfl rfl rfl fun a hk => ?_
  refine wpList_nil ?_
  refine hK1 _ _ ?_
  have e0 : Value.int .i64 (w64 ((l.length : Int) - 1)) = .int .i64 ((l.length : Int) - 1 - ((0 : Nat) : Int)) := by rw [w64id (by omega) (by omega)]; simp
  have hk := hk.re 3 rfl e0
  obtain ⟨I, hI⟩ : ∃ I : Nat → Act → World → Prop, I = fun fu a W => ∃ k, fu = l.length - k ∧ k ≤ l.length ∧ Kn [(0, .func (.yield y) #[] #[]), (1, .pointer (some ⟨b, 0, none⟩)), (3, .int .i64 ((l.length : Int) - 1 - (k : Int)))] 19 a ∧ J k W := ⟨_, rfl⟩
  obtain ⟨R, hR⟩ : ∃ R : Act → World → Prop, R = fun a W => Kn [] 19 a ∧ J l.length W := ⟨_, rfl⟩
  refine wpI_cutq R ?_ ?_
  · refine wpIn_block ?_
    refine wpIn_loop_ghost I l.length ?_ ?_
    · rw [hI]
      exact ⟨0, rfl, Nat.zero_le _, (hk.c 0 rfl (hk.c 1 rfl (hk.c 3 rfl hk.k))), h0⟩
    · clear hk
      intro fu a W hI0
      rw [hI] at hI0
      obtain ⟨k, hfu, hkl, hk, hJ⟩ := hI0
      apply wpIn_seq_k; intro K2 hK2
      apply wpIn_seq_k; intro K3 hK3
      refine wpIn_wide.2 ?_
      apply wp_region_lit
      refine sm _ rfl hk rfl rfl rfl fun a hk => ?_
      refine sv (.bool (decide ((l.length : Int) - 1 - (k : Int) ≥ 0))) hk rfl rfl rfl fun a hk => ?_
      refine wpList_nil ?_
      refine hK3 _ _ ?_
      by_cases hlt : k < l.length
      · have hc : decide ((l.length : Int) - 1 - (k : Int) ≥ 0) = true := decide_eq_true (by omega)
        have hk := hk.lit 8 hc rfl
        refine cndI_true hk rfl rfl ?_
        refine wpIn_skip ?_
        refine hK2 _ _ ?_
        apply wpIn_seq_k; intro K4 hK4
        refine wpIn_block ?_
        apply wpIn_seq_k; intro K5 hK5
        apply wpIn_region_lit
        have hH := hHas k W hJ
        have hn : ((l.length : Int) - 1 - (k : Int)).toNat = l.length - 1 - k := by omega
        obtain ⟨Q1, hQ1⟩ : ∃ Q1 : Act → World → Prop, Q1 = fun a w => Kn [(16, .agg #[.int .i64 ((l.getD (l.length - 1 - k) z_Io).At), .string ((l.getD (l.length - 1 - k) z_Io).Data)]), (12, .int .i64 ((l.length : Int) - 1 - (k : Int))), (11, .func (.yield y) #[] #[]), (0, .func (.yield y) #[] #[]), (1, .pointer (some ⟨b, 0, none⟩)), (3, .int .i64 ((l.length : Int) - 1 - (k : Int)))] 19 a ∧ w = W := ⟨_, rfl⟩
        refine scutI 6 Q1 ?_ ?_
        · refine sm _ rfl hk rfl rfl rfl fun a hk => ?_
          refine sm _ rfl hk rfl rfl rfl fun a hk => ?_
          refine sl (v := .slice A l.length p) rfl hk rfl rfl rfl ag65 (box_has hH) fun a hk => ?_
          refine sm _ rfl hk rfl rfl rfl fun a hk => ?_
          obtain ⟨bo, q, hA⟩ := v.some_ ((l.length : Int) - 1 - (k : Int)) (by omega) (by omega)
          refine si rfl hk rfl rfl rfl rfl un65 sz129 (by omega) (by omega) hA fun a hk => ?_
          obtain ⟨_, rfl, hcell⟩ := v.at_ z_Io ((l.length : Int) - 1 - (k : Int)) (by omega) (by omega)
          refine sln [.int .i64 ((l.getD ((l.length : Int) - 1 - (k : Int)).toNat z_Io).At), .string ((l.getD ((l.length : Int) - 1 - (k : Int)).toNat z_Io).Data)] rfl hk rfl rfl rfl ag129 sz129 (cells_at hcell (Has.right hH)) fun a hk => ?_
          refine wpList_nil ?_
          show Q1 _ _
          rw [hQ1]
          have eV : (.agg #[.int .i64 ((l.getD ((l.length : Int) - 1 - (k : Int)).toNat z_Io).At), .string ((l.getD ((l.length : Int) - 1 - (k : Int)).toNat z_Io).Data)] : Value) = .agg #[.int .i64 ((l.getD (l.length - 1 - k) z_Io).At), .string ((l.getD (l.length - 1 - k) z_Io).Data)] := by rw [hn]
          have hk := hk.re 16 rfl eV
          exact ⟨(hk.c 16 rfl (hk.c 12 rfl (hk.c 11 rfl (hk.c 0 rfl (hk.c 1 rfl (hk.c 3 rfl hk.k)))))), rfl⟩
        intro a W' hq
        rw [hQ1] at hq
        obtain ⟨hk, rfl⟩ := hq
        refine syield rfl rfl hk rfl rfl rfl (hY k W' hJ hlt) (by rintro e w' (⟨rfl, _⟩ | ⟨rfl, _⟩) <;> exact ⟨_, rfl⟩) ?_
        rintro u W3 (⟨hu, hJ3⟩ | ⟨hu, hJ3⟩) a hk
        · cases hu
          obtain ⟨Q2, hQ2⟩ : ∃ Q2 : Act → World → Prop, Q2 = fun a w => Kn [(18, .bool false), (0, .func (.yield y) #[] #[]), (1, .pointer (some ⟨b, 0, none⟩)), (3, .int .i64 ((l.length : Int) - 1 - (k : Int)))] 19 a ∧ w = W3 := ⟨_, rfl⟩
          refine scutI 1 Q2 ?_ ?_
          · refine sv (.bool false) hk rfl rfl rfl fun a hk => ?_
            refine wpList_nil ?_
            show Q2 _ _
            rw [hQ2]
            exact ⟨(hk.c 18 rfl (hk.c 0 rfl (hk.c 1 rfl (hk.c 3 rfl hk.k)))), rfl⟩
          intro a w' hq
          rw [hQ2] at hq
          obtain ⟨hk, rfl⟩ := hq
          refine wpListIn_nil ?_
          refine hK5 _ _ ?_
          refine cndI_false hk rfl rfl ?_
          refine wpIn_skip ?_
          refine hK4 _ _ ?_
          refine wpIn_wide.2 ?_
          apply wp_region_lit
          refine sm _ rfl hk rfl rfl rfl fun a hk => ?_
          refine sv (.int .i64 (w64 ((l.length : Int) - 1 - (k : Int) - 1))) hk rfl rfl rfl fun a hk => ?_
          refine sa _ rfl hk rfl rfl rfl fun a hk => ?_
          refine wpList_nil ?_
          show ∃ n', n' < _ ∧ I n' _ _
          refine ⟨l.length - (k + 1), by omega, ?_⟩
          rw [hI]
          have e3 : Value.int .i64 (w64 ((l.length : Int) - 1 - (k : Int) - 1)) = .int .i64 ((l.length : Int) - 1 - ((k + 1 : Nat) : Int)) := by
            rw [w64id (by omega) (by omega)]; congr 1; omega
          have hk := hk.re 3 rfl e3
          exact ⟨k + 1, rfl, by omega, (hk.c 0 rfl (hk.c 1 rfl (hk.c 3 rfl hk.k))), hJ3⟩
        · cases hu
          obtain ⟨Q2, hQ2⟩ : ∃ Q2 : Act → World → Prop, Q2 = fun a w => Kn [(18, .bool true), (0, .func (.yield y) #[] #[]), (1, .pointer (some ⟨b, 0, none⟩)), (3, .int .i64 ((l.length : Int) - 1 - (k : Int)))] 19 a ∧ w = W3 := ⟨_, rfl⟩
          refine scutI 1 Q2 ?_ ?_
          · refine sv (.bool true) hk rfl rfl rfl fun a hk => ?_
            refine wpList_nil ?_
            show Q2 _ _
            rw [hQ2]
            exact ⟨(hk.c 18 rfl (hk.c 0 rfl (hk.c 1 rfl (hk.c 3 rfl hk.k)))), rfl⟩
          intro a w' hq
          rw [hQ2] at hq
          obtain ⟨hk, rfl⟩ := hq
          refine wpListIn_nil ?_
          refine hK5 _ _ ?_
          refine cndI_true hk rfl rfl ?_
          refine wpIn_ret ?_
          exact ⟨hk.defers, _, results_run hk [] [] rfl trivial, ⟨_, rfl⟩, .inr hJ3⟩
      · have hc : decide ((l.length : Int) - 1 - (k : Int) ≥ 0) = false := decide_eq_false (by omega)
        have hk := hk.lit 8 hc rfl
        have hkk : k = l.length := by omega
        subst hkk
        refine cndI_false hk rfl rfl ?_
        refine wpIn_exit ?_
        show R _ _
        rw [hR]
        exact ⟨hk.k, hJ⟩
  · intro a W hR0
    rw [hR] at hR0
    obtain ⟨hk, hJ⟩ := hR0
    exact ⟨hk.defers, _, results_run hk [] [] rfl trivial, ⟨_, rfl⟩, .inl hJ⟩

noncomputable def impl_ReadAt.s0 (x0 : S_Device) (x1 : Int) (j20 : Nat)  : Option ((Nat) ⊕ Ex (Unit) (ByteArray × Int)) :=
  (bif decide (j20 < x0.Unsure.length) then (bif (((x0.Unsure.getD (x0.Unsure.length - 1 - j20) z_Io).At) == x1) then (some (.inr (.ret ((x0.Unsure.getD (x0.Unsure.length - 1 - j20) z_Io).Data, 0)))) else (some (.inl (j20 + 1)))) else (some (.inr (.out ()))))
noncomputable def impl_ReadAt.f (x0 : S_Device) (x1 : Int) : Option (ByteArray × Int) :=
  ((impl_DeviceOK.f x0).bind fun y8 => (bif (!y8) then (some ((⟨#[]⟩ : ByteArray), 1)) else ((impl_isSector.f x1).bind fun y13 => (bif (!y13) then (some ((⟨#[]⟩ : ByteArray), 4)) else ((loopO (fun (s : Nat) => impl_ReadAt.s0 x0 x1 s) 0).bind fun o => match o with | .out _ => (if 0 ≤ x1 ∧ x1 < (x0.Sure.length : Int) then (some ((x0.Sure.getD x1.toNat ByteArray.empty), 0)) else none) | .ret r => (some r))))))
set_option maxRecDepth 100000 in
set_option maxHeartbeats 0 in
theorem impl_ReadAt_t (w0 : World) (x0 : S_Device) (A0_0 : Option Addr) (p0_0 : Nat) (k0_0 : Chunk) (v0_0 : View Lay.str A0_0 p0_0 x0.Sure k0_0) (w0_0 : Has w0 k0_0) (A0_1 : Option Addr) (p0_1 : Nat) (k0_1 : Chunk) (v0_1 : View L_Io A0_1 p0_1 x0.Unsure k0_1) (w0_1 : Has w0 k0_1) (x1 : Int) (r : ByteArray × Int) (H : impl_ReadAt.f x0 x1 = some r) :
    Calls Try.prog 40 #[.agg #[.slice A0_0 x0.Sure.length p0_0, .slice A0_1 x0.Unsure.length p0_1], .int .i64 x1] w0 (Ret (fun v w => v = .tuple #[.string r.1, .int .i64 r.2] ∧ Sat [] w0 w [] [])) := by
  have hs : Sat [] w0 w0 [(1, k0_0), (2, k0_1)] [] := Sat.init w0 [(1, k0_0), (2, k0_1)] [] (by simp only [List.mem_cons, List.not_mem_nil, or_false]; rintro x (rfl | rfl) <;> assumption) (by simp) List.nodup_nil (by simp [blks])
  unfold impl_ReadAt.f at H
  refine enterM Try.func40 rfl Try.ntmps40 rfl fun a hk => ?_
  apply wp_seq_k; intro K1 hK1
  apply wp_region_lit
  refine sbx 3 hs rfl hk rfl rfl rfl rfl fun b2 w a hk hs => ?_
  refine sbx 4 hs rfl hk rfl rfl rfl rfl fun b3 w a hk hs => ?_
  refine salx 5 hs rfl hk rfl rfl ze9 rfl fun b4 w a hk hs => ?_
  refine salx 6 hs rfl hk rfl rfl ze3 rfl fun b5 w a hk hs => ?_
  show wpList _ _ _ [] _ _
  refine wpList_nil ?_
  refine hK1 _ _ ?_
  apply wp_seq_k; intro K6 hK6
  refine wp_block ?_
  apply wp_seq_k; intro K7 hK7
  apply wp_region_lit
  refine sln [.slice A0_0 x0.Sure.length p0_0, .slice A0_1 x0.Unsure.length p0_1] rfl hk rfl rfl rfl ag67 sz67 (box_cells hs (k := 3) rfl) fun a hk => ?_
  obtain ⟨y8, h9, H⟩ := bind_some H
  refine sc rfl en47 hk rfl rfl rfl (impl_DeviceOK_t _ x0 A0_0 p0_0 _ v0_0 (hs.hasD (k := 1) rfl) A0_1 p0_1 _ v0_1 (hs.hasD (k := 2) rfl) _ h9) ?_
  rintro _ w ⟨rfl, hG⟩ a hk
  have hs := hs.call0 hG
  refine sv (.bool (!y8)) hk rfl rfl rfl fun a hk => ?_
  refine sa _ rfl hk rfl rfl rfl fun a hk => ?_
  show wpList _ _ _ [] _ _
  refine wpList_nil ?_
  refine hK7 _ _ ?_
  rcases cond_some H with ⟨c10, H⟩ | ⟨c10, H⟩
  ·have hk := hk.lit 8 c10 rfl
   refine cnd_true hk rfl rfl ?_
   apply wp_seq_k; intro K11 hK11
   apply wp_region_lit
   refine ssx (cs' := #[.string (⟨#[]⟩ : ByteArray)]) 5 hs rfl rfl hk rfl rfl rfl rfl sz9 rfl rfl rfl rfl fun w a hk hs => ?_
   refine ssx (cs' := #[.int .i64 1]) 6 hs rfl rfl hk rfl rfl rfl rfl sz3 rfl rfl rfl rfl fun w a hk hs => ?_
   show wpList _ _ _ [] _ _
   refine wpList_nil ?_
   refine hK11 _ _ ?_
   refine wp_ret ?_
   obtain rfl := Option.some.inj H
   exact finM hk _ [(.string (⟨#[]⟩ : ByteArray)), (.int .i64 1)] rfl ⟨⟨_, rfl, run_load1 ag9 (box_cell hs (k := 5) rfl rfl)⟩, ⟨⟨_, rfl, run_load1 ag3 (box_cell hs (k := 6) rfl rfl)⟩, trivial⟩⟩ ⟨rfl, (hs.pick [] rfl).dnil⟩
  ·have hk := hk.lit 8 c10 rfl
   refine cnd_false hk rfl rfl ?_
   apply wp_seq_k; intro K12 hK12
   apply wp_region_lit
   refine sl rfl hk rfl rfl rfl ag3 (box_cell hs (k := 4) rfl rfl) fun a hk => ?_
   obtain ⟨y13, h14, H⟩ := bind_some H
   refine sc rfl en87 hk rfl rfl rfl (impl_isSector_t _ x1 _ h14) ?_
   rintro _ w ⟨rfl, hG⟩ a hk
   have hs := hs.call0 hG
   refine sv (.bool (!y13)) hk rfl rfl rfl fun a hk => ?_
   refine sa _ rfl hk rfl rfl rfl fun a hk => ?_
   show wpList _ _ _ [] _ _
   refine wpList_nil ?_
   refine hK12 _ _ ?_
   rcases cond_some H with ⟨c15, H⟩ | ⟨c15, H⟩
   ·have hk := hk.lit 12 c15 rfl
    refine cnd_true hk rfl rfl ?_
    apply wp_seq_k; intro K16 hK16
    apply wp_region_lit
    refine ssx (cs' := #[.string (⟨#[]⟩ : ByteArray)]) 5 hs rfl rfl hk rfl rfl rfl rfl sz9 rfl rfl rfl rfl fun w a hk hs => ?_
    refine ssx (cs' := #[.int .i64 4]) 6 hs rfl rfl hk rfl rfl rfl rfl sz3 rfl rfl rfl rfl fun w a hk hs => ?_
    show wpList _ _ _ [] _ _
    refine wpList_nil ?_
    refine hK16 _ _ ?_
    have hs := hs.pick [(5, 5), (6, 6)] rfl
    refine wp_ret ?_
    obtain rfl := Option.some.inj H
    exact finM hk _ [(.string (⟨#[]⟩ : ByteArray)), (.int .i64 4)] rfl ⟨⟨_, rfl, run_load1 ag9 (box_cell hs (k := 5) rfl rfl)⟩, ⟨⟨_, rfl, run_load1 ag3 (box_cell hs (k := 6) rfl rfl)⟩, trivial⟩⟩ ⟨rfl, (hs.pick [] rfl).dnil⟩
   ·have hk := hk.lit 12 c15 rfl
    refine cnd_false hk rfl rfl ?_
    refine wp_skip ?_
    refine hK6 _ _ ?_
    have hs := hs.pick [(3, 3), (4, 4), (5, 5), (6, 6)] rfl
    apply wp_seq_k; intro K17 hK17
    apply wp_seq_k; intro K18 hK18
    apply wp_region_lit
    refine sf ⟨b2, 1, none⟩ rfl hk rfl rfl rfl fd67_1 rfl fun a hk => ?_
    refine sl rfl hk rfl rfl rfl ag65 (box_cell hs (k := 3) rfl rfl) fun a hk => ?_
    refine sc rfl en91 hk rfl rfl rfl (slices_Backward_impl_Io_impl_Io_t _ A0_1 p0_1 x0.Unsure _ v0_1 (hs.hasD (k := 2) rfl)) ?_
    rintro _ w ⟨b19, rfl, hG⟩ a hk
    have hs := hs.call0k hG [7] rfl
    show wpList _ _ _ [] _ _
    refine wpList_nil ?_
    refine hK18 _ _ ?_
    refine wp_block ?_
    obtain ⟨o21, h22, HL23⟩ := bind_some H
    clear H
    obtain ⟨fu26, h22⟩ := loopO_some h22
    obtain ⟨I24, hI24⟩ : ∃ I : Nat → List (Nat × Chunk) → Prop, I = fun (k : Nat) (Γ : List (Nat × Chunk)) => (∃ fu, loopN (fun (s : Nat) => impl_ReadAt.s0 x0 x1 s) fu k = some o21) ∧ Γ = [(3, [(b2, .cells #[.slice A0_0 x0.Sure.length p0_0, .slice A0_1 x0.Unsure.length p0_1] 67 (0, 0))]), (4, [(b3, .cells #[.int .i64 x1] 3 (0, 0))]), (5, [(b4, .cells #[.string ByteArray.empty] 9 (0, 0))]), (6, [(b5, .cells #[.int .i64 0] 3 (0, 0))]), (7, [(b19, .cells #[.slice A0_1 x0.Unsure.length p0_1] 65 (0, 0))])] := ⟨_, rfl⟩
    obtain ⟨X25, hX25⟩ : ∃ I : List (Nat × Chunk) → Prop, I = fun (Γ : List (Nat × Chunk)) => ∃ (u27 : ByteArray) (u28 : Int), .ret (u27, u28) = o21 ∧ Γ = [(5, [(b4, .cells #[.string u27] 9 (0, 0))]), (6, [(b5, .cells #[.int .i64 u28] 3 (0, 0))])] := ⟨_, rfl⟩
    refine rf_law2 (e1 := fun k => .int .i64 ((x0.Unsure.length : Int) - 1 - (k : Int))) (e2 := fun k => .agg #[.int .i64 ((x0.Unsure.getD (x0.Unsure.length - 1 - k) z_Io).At), .string ((x0.Unsure.getD (x0.Unsure.length - 1 - k) z_Io).Data)]) I24 X25 _ hk rfl rfl rfl en146 (slices_Backward_impl_Io_impl_Io_seq b19 A0_1 p0_1 x0.Unsure k0_1 v0_1) ?_ (StayL.cons (Stay.has w0_0) (StayL.cons (Stay.has w0_1) (StayL.nil _))) ?_ (StayL.cons Stay.box (StayL.cons Stay.box (StayL.cons Stay.box (StayL.cons Stay.box (StayL.cons Stay.box (StayL.nil _)))))) (hs.pick [(3, 3), (4, 4), (5, 5), (6, 6), (7, 7)] rfl) ?_ ?_ ?_
    ·intro k W Γ hi hs
     rw [hI24] at hi
     obtain ⟨_, rfl⟩ := hi
     exact Has.app (hs.hasG (k := 7) rfl) (hs.hasD (k := 2) rfl)
    ·rw [hI24]
     exact ⟨⟨fu26, h22⟩, rfl⟩
    ·clear hk hs h22
     intro _ j20 W29 Γ a hk hi _ hS31 hkN
     rw [hI24] at hi
     obtain ⟨⟨fu35, hi⟩, rfl⟩ := hi
     obtain ⟨x33, H, h34⟩ := loop_round hi
     try dsimp only at H
     unfold impl_ReadAt.s0 at H
     rcases cond_some H with ⟨_, H⟩ | ⟨hc, H⟩
     rotate_left
     ·rw [decide_eq_true hkN] at hc; cases hc
     have hs := hS31.whole
     refine rin_lit (by rfl) (by rintro ⟨_, _, h⟩; exact h) ?_
     refine salx 8 hs rfl hk rfl rfl ze129 rfl fun b36 w a hk hs => ?_
     refine ssw 8 hs rfl rfl hk rfl rfl rfl rfl sz129 (by simp [Value.oneCell']) rfl fun w a hk hs => ?_
     show wpList _ _ _ [] _ _
     refine wpList_nil ?_
     refine ⟨_, (StayL.cons Stay.box (StayL.cons Stay.box (StayL.cons Stay.box (StayL.cons Stay.box (StayL.cons Stay.box (StayL.cons Stay.box (StayL.nil _))))))), (hs.pick [(3, 3), (4, 4), (5, 5), (6, 6), (7, 7), (8, 8)] rfl), fun W30 hS32 => ?_⟩
     have hs := hS32.whole
     refine wpIn_block ?_
     apply wpIn_seq_k; intro K37 hK37
     refine rin_lit (by rfl) (by rintro ⟨_, _, h⟩; exact h) ?_
     refine sf ⟨b36, 0, none⟩ rfl hk rfl rfl rfl fd129_0 rfl fun a hk => ?_
     refine sl rfl hk rfl rfl rfl ag3 (box_cell hs (k := 8) rfl rfl) fun a hk => ?_
     refine sl rfl hk rfl rfl rfl ag3 (box_cell hs (k := 4) rfl rfl) fun a hk => ?_
     refine sv (.bool (((x0.Unsure.getD (x0.Unsure.length - 1 - j20) z_Io).At) == x1)) hk rfl rfl rfl fun a hk => ?_
     show wpList _ _ _ [] _ _
     refine wpList_nil ?_
     refine hK37 _ _ ?_
     rcases cond_some H with ⟨c38, H⟩ | ⟨c38, H⟩
     ·have hk := hk.lit 24 c38 rfl
      refine cndI_true hk rfl rfl ?_
      apply wpIn_seq_k; intro K39 hK39
      refine rin_lit (by rfl) (by rintro ⟨_, _, h⟩; exact h) ?_
      refine sf ⟨b36, 1, none⟩ rfl hk rfl rfl rfl fd129_1 rfl fun a hk => ?_
      refine sl rfl hk rfl rfl rfl ag9 (box_cell hs (k := 8) rfl rfl) fun a hk => ?_
      refine ssx (cs' := #[.string ((x0.Unsure.getD (x0.Unsure.length - 1 - j20) z_Io).Data)]) 5 hs rfl rfl hk rfl rfl rfl rfl sz9 rfl rfl rfl rfl fun w a hk hs => ?_
      refine ssx (cs' := #[.int .i64 0]) 6 hs rfl rfl hk rfl rfl rfl rfl sz3 rfl rfl rfl rfl fun w a hk hs => ?_
      show wpList _ _ _ [] _ _
      refine wpList_nil ?_
      refine hK39 _ _ ?_
      refine wpIn_ret ?_
      obtain rfl := Option.some.inj H
      show ∃ Γ2, X25 Γ2 ∧ StayL w0 Γ2 ∧ Sat (blks [(3, [(b2, .cells #[.slice A0_0 x0.Sure.length p0_0, .slice A0_1 x0.Unsure.length p0_1] 67 (0, 0))]), (4, [(b3, .cells #[.int .i64 x1] 3 (0, 0))]), (5, [(b4, .cells #[.string ByteArray.empty] 9 (0, 0))]), (6, [(b5, .cells #[.int .i64 0] 3 (0, 0))]), (7, [(b19, .cells #[.slice A0_1 x0.Unsure.length p0_1] 65 (0, 0))]), (8, [(b36, .cells #[.int .i64 ((x0.Unsure.getD (x0.Unsure.length - 1 - j20) z_Io).At), .string ((x0.Unsure.getD (x0.Unsure.length - 1 - j20) z_Io).Data)] 129 (0, 0))])]) W30 _ [(1, k0_0), (2, k0_1)] Γ2
      refine ⟨_, ?_, (StayL.cons Stay.box (StayL.cons Stay.box (StayL.nil _))), (hs.pick [(5, 5), (6, 6)] rfl)⟩
      rw [hX25]
      exact ⟨(x0.Unsure.getD (x0.Unsure.length - 1 - j20) z_Io).Data, 0, h34, rfl⟩
     ·have hk := hk.lit 24 c38 rfl
      refine cndI_false hk rfl rfl ?_
      refine wpIn_skip ?_
      obtain rfl := Option.some.inj H
      obtain ⟨m40, _, h34⟩ := h34
      show ∃ Γ2, I24 (j20 + 1) Γ2 ∧ StayL w0 Γ2 ∧ Sat (blks [(3, [(b2, .cells #[.slice A0_0 x0.Sure.length p0_0, .slice A0_1 x0.Unsure.length p0_1] 67 (0, 0))]), (4, [(b3, .cells #[.int .i64 x1] 3 (0, 0))]), (5, [(b4, .cells #[.string ByteArray.empty] 9 (0, 0))]), (6, [(b5, .cells #[.int .i64 0] 3 (0, 0))]), (7, [(b19, .cells #[.slice A0_1 x0.Unsure.length p0_1] 65 (0, 0))]), (8, [(b36, .cells #[.int .i64 ((x0.Unsure.getD (x0.Unsure.length - 1 - j20) z_Io).At), .string ((x0.Unsure.getD (x0.Unsure.length - 1 - j20) z_Io).Data)] 129 (0, 0))])]) W30 _ [(1, k0_0), (2, k0_1)] Γ2
      refine ⟨_, ?_, (StayL.cons Stay.box (StayL.cons Stay.box (StayL.cons Stay.box (StayL.cons Stay.box (StayL.cons Stay.box (StayL.nil _)))))), (hs.pick [(3, 3), (4, 4), (5, 5), (6, 6), (7, 7)] rfl)⟩
      rw [hI24]
      exact ⟨⟨m40, h34⟩, rfl⟩
    ·intro D41 W42 Γ hi hS46 hs hD44 hD43
     rw [hI24] at hi
     obtain ⟨⟨_, hi⟩, rfl⟩ := hi
     obtain ⟨_, H, h34⟩ := loop_round hi
     try dsimp only at H
     unfold impl_ReadAt.s0 at H
     rcases cond_some H with ⟨hc, _⟩ | ⟨_, H⟩
     ·exact absurd hc (by simp)
     obtain rfl := Option.some.inj H
     try dsimp only at h34
     subst h34
     have H := HL23
     try dsimp only at H
     have hS45 := hs
     have hs := hS45.whole
     refine hK17 _ _ ?_
     apply wp_seq_k; intro K47 hK47
     apply rmark_lit
     refine sf ⟨b2, 0, none⟩ rfl hk rfl rfl rfl fd67_0 rfl fun a hk => ?_
     refine sl rfl hk rfl rfl rfl ag64 (box_cell hs (k := 3) rfl rfl) fun a hk => ?_
     refine sl rfl hk rfl rfl rfl ag3 (box_cell hs (k := 4) rfl rfl) fun a hk => ?_
     rcases ite_some H with ⟨c48, H⟩ | ⟨_, H⟩
     rotate_left
     ·cases H
     obtain ⟨b49, q50, hAc48⟩ := (v0_0).some_ x1 c48.1 c48.2
     refine si rfl hk rfl rfl rfl rfl un64 sz9 c48.1 c48.2 hAc48 fun a hk => ?_
     obtain ⟨_, rfl, e51⟩ := (v0_0).at_ ByteArray.empty x1 c48.1 c48.2
     refine sl (v := (.string (x0.Sure.getD x1.toNat ByteArray.empty))) rfl hk rfl rfl rfl ag9 ((e51 0 _ rfl).cell (hs.hasD (k := 1) rfl)) fun a hk => ?_
     refine ssx (cs' := #[.string (x0.Sure.getD x1.toNat ByteArray.empty)]) 5 hs rfl rfl hk rfl rfl rfl rfl sz9 rfl rfl rfl rfl fun w a hk hs => ?_
     refine ssx (cs' := #[.int .i64 0]) 6 hs rfl rfl hk rfl rfl rfl rfl sz3 rfl rfl rfl rfl fun w a hk hs => ?_
     show wpList _ _ _ [] _ _
     refine wpList_nil ?_
     refine hK47 _ _ ?_
     refine wp_ret ?_
     obtain rfl := Option.some.inj H
     have hs := hs.pick [(5, 5), (6, 6)] rfl
     have hD2 := hS45.keepD hs hS46 hD43 rfl hD44
     have hs := (hS45.backAll hs).putObj (.deferred none) hD2 rfl hD44 hD44 (StayL.cons (Stay.has w0_0) (StayL.cons (Stay.has w0_1) (StayL.nil _))) (StayL.cons Stay.box (StayL.cons Stay.box (StayL.nil _)))
     exact finD hk hD2 _ [(.string (x0.Sure.getD x1.toNat ByteArray.empty)), (.int .i64 0)] rfl ⟨⟨_, rfl, run_load1 ag9 (box_cell hs (k := 5) rfl rfl)⟩, ⟨⟨_, rfl, run_load1 ag3 (box_cell hs (k := 6) rfl rfl)⟩, trivial⟩⟩ ⟨rfl, (hs.pick [] rfl).dnil⟩
    ·intro D41 W42 Γ hi hS46 hs hD44 hD43
     rw [hX25] at hi
     obtain ⟨u27, u28, h34, rfl⟩ := hi
     subst h34
     have H := HL23
     try dsimp only at H
     obtain rfl := Option.some.inj H
     have hS45 := hs
     have hs := hS45.whole
     have hs := hs.pick [(5, 5), (6, 6)] rfl
     have hD2 := hS45.keepD hs hS46 hD43 rfl hD44
     have hs := (hS45.backAll hs).putObj (.deferred none) hD2 rfl hD44 hD44 (StayL.cons (Stay.has w0_0) (StayL.cons (Stay.has w0_1) (StayL.nil _))) (StayL.cons Stay.box (StayL.cons Stay.box (StayL.nil _)))
     exact finD hk hD2 _ [(.string u27), (.int .i64 u28)] rfl ⟨⟨_, rfl, run_load1 ag9 (box_cell hs (k := 5) rfl rfl)⟩, ⟨⟨_, rfl, run_load1 ag3 (box_cell hs (k := 6) rfl rfl)⟩, trivial⟩⟩ ⟨rfl, (hs.pick [] rfl).dnil⟩

end Go.Proofs.Ytlbbkehdfgjneaa
