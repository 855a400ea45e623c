/- Further functions. -/
import Derived.Test.YtfjhdkmdidadiaaDoorGXReadOp
namespace Go.Proofs.YtfjhdkmdidadiaaDoor
open Go Go.Z Go.Proofs Go.MuLone Go.ChangeShapes Go.WideShapes Go.ChangeAt Go.RowKit
set_option linter.unusedVariables false
set_option linter.unusedSimpArgs false
noncomputable def laws_FnExactReadOp.f (x0 : ByteArray) : Option (Bool) :=
  (bif (decide ((x0.size : Int) > 1048576)) then (some true) else ((spec_ReadOp.f x0).bind fun y7 => ((impl_ReadOp.f x0).bind fun y11 => ((((laws_eqOp.f y11.1 y7.1).bind fun y22 => (bif (!y22) then (some true) else (some (y11.2 != y7.2)))) : Option (Bool)).bind fun u17 => (bif u17 then (some false) else (some true))))))
set_option maxRecDepth 100000 in
set_option maxHeartbeats 0 in
theorem laws_FnExactReadOp_t (w0 : World) (x0 : ByteArray) (kT : Chunk) (tT : TabR Tryd.prog kT) (wT : Has w0 kT) (r : Bool) (H : laws_FnExactReadOp.f x0 = some r) :
    Calls Tryd.prog 6 #[.string x0] w0 (Ret (fun v w => v = .bool r ∧ Sat [] w0 w [] [])) := by
  have hs : Sat [] w0 w0 [(1, kT)] [] := Sat.init w0 [(1, kT)] [] (by simp only [List.mem_cons, List.not_mem_nil, or_false]; rintro x (rfl) <;> assumption) (by simp) List.nodup_nil (by simp [blks])
  unfold laws_FnExactReadOp.f at H
  refine enter Tryd.func6 rfl Tryd.ntmps6 rfl fun a hk => ?_
  apply wp_seq_k; intro K1 hK1
  apply wp_region_lit
  refine sa _ rfl hk rfl rfl rfl fun a hk => ?_
  show wpList _ _ _ [] _ _
  refine wpList_nil ?_
  refine hK1 _ _ ?_
  apply wp_seq_k; intro K2 hK2
  apply wp_seq_k; intro K3 hK3
  apply wp_region_lit
  refine sm _ rfl hk rfl rfl rfl fun a hk => ?_
  refine sles rfl hk rfl rfl rfl un9 fun a hk => ?_
  refine sv (.bool (decide ((x0.size : Int) > 1048576))) hk rfl rfl rfl fun a hk => ?_
  show wpList _ _ _ [] _ _
  refine wpList_nil ?_
  refine hK3 _ _ ?_
  rcases cond_some H with ⟨c4, H⟩ | ⟨c4, H⟩
  ·have hk := hk.lit 9 c4 rfl
   refine cnd_true hk rfl rfl ?_
   apply wp_seq_k; intro K5 hK5
   apply wp_region_lit
   refine sa _ rfl hk rfl rfl rfl fun a hk => ?_
   show wpList _ _ _ [] _ _
   refine wpList_nil ?_
   refine hK5 _ _ ?_
   refine wp_ret ?_
   obtain rfl := Option.some.inj H
   exact fin hk _ [(.bool true)] rfl ⟨rfl, trivial⟩ ⟨rfl, (hs.pick [] rfl).dnil⟩
  ·have hk := hk.lit 9 c4 rfl
   refine cnd_false hk rfl rfl ?_
   refine wp_skip ?_
   refine hK2 _ _ ?_
   apply wp_seq_k; intro K6 hK6
   apply wp_region_lit
   refine sm _ rfl hk rfl rfl rfl fun a hk => ?_
   obtain ⟨y7, h8, H⟩ := bind_some H
   refine sc rfl en21 hk rfl rfl rfl (spec_ReadOp_t _ x0 _ h8) ?_
   rintro _ w ⟨rfl, hG⟩ a hk
   have hs := hs.call0 hG
   refine sm _ rfl hk rfl rfl rfl fun a hk => ?_
   refine sv (.agg #[.int .i64 y7.1.Kind, .int .i64 y7.1.Key, .int .i64 y7.1.Value]) hk rfl rfl rfl fun a hk => ?_
   refine sv (.int .i64 y7.2) hk rfl rfl rfl fun a hk => ?_
   refine salx 2 hs rfl hk rfl rfl ze26 rfl fun b9 w a hk hs => ?_
   refine ssw 2 hs rfl rfl hk rfl rfl rfl rfl sz26 (by simp [Value.oneCell']) rfl fun w a hk hs => ?_
   refine sa _ rfl hk rfl rfl rfl fun a hk => ?_
   show wpList _ _ _ [] _ _
   refine wpList_nil ?_
   refine hK6 _ _ ?_
   have hs := hs.pick [(2, 2)] rfl
   apply wp_seq_k; intro K10 hK10
   apply wp_region_lit
   refine sm _ rfl hk rfl rfl rfl fun a hk => ?_
   obtain ⟨y11, h12, H⟩ := bind_some H
   refine sc rfl en22 hk rfl rfl rfl (impl_ReadOp_t _ x0 kT tT (hs.hasD (k := 1) rfl) _ h12) ?_
   rintro _ w ⟨rfl, hG⟩ a hk
   have hs := hs.call0 hG
   refine sm _ rfl hk rfl rfl rfl fun a hk => ?_
   refine sv (.agg #[.int .i64 y11.1.Kind, .int .i64 y11.1.Key, .int .i64 y11.1.Value]) hk rfl rfl rfl fun a hk => ?_
   refine sv (.int .i64 y11.2) hk rfl rfl rfl fun a hk => ?_
   refine salx 3 hs rfl hk rfl rfl ze26 rfl fun b13 w a hk hs => ?_
   refine ssw 3 hs rfl rfl hk rfl rfl rfl rfl sz26 (by simp [Value.oneCell']) rfl fun w a hk hs => ?_
   refine sa _ rfl hk rfl rfl rfl fun a hk => ?_
   show wpList _ _ _ [] _ _
   refine wpList_nil ?_
   refine hK10 _ _ ?_
   apply wp_seq_k; intro K14 hK14
   apply wp_seq_k; intro K15 hK15
   obtain ⟨o18, h19, HL20⟩ := bind_some H
   clear H
   obtain ⟨R21, hR21⟩ : ∃ R : Act → World → Prop, R = fun a w => ∃ (u17 : Bool), u17 = o18 ∧ Kn [(28, (.bool u17))] 29 a ∧ Sat [] w0 w [(1, kT)] [] := ⟨_, rfl⟩
   refine wp_cutq R21 ?_ ?_
   ·have H := h19
    apply wp_region_lit
    refine sln [.int .i64 y11.1.Kind, .int .i64 y11.1.Key, .int .i64 y11.1.Value] rfl hk rfl rfl rfl ag26 sz26 (box_cells hs (k := 3) rfl) fun a hk => ?_
    refine sln [.int .i64 y7.1.Kind, .int .i64 y7.1.Key, .int .i64 y7.1.Value] rfl hk rfl rfl rfl ag26 sz26 (box_cells hs (k := 2) rfl) fun a hk => ?_
    obtain ⟨y22, h23, H⟩ := bind_some H
    refine sc rfl en23 hk rfl rfl rfl (laws_eqOp_t _ y11.1 y7.1 _ h23) ?_
    rintro _ w ⟨rfl, hG⟩ a hk
    have hs := hs.call0 hG
    refine sv (.bool (!y22)) hk rfl rfl rfl fun a hk => ?_
    refine sm _ rfl hk rfl rfl rfl fun a hk => ?_
    rcases cond_some H with ⟨c24, H⟩ | ⟨c24, H⟩
    ·have hk := hk.lit 24 c24 rfl
     refine sk hk rfl rfl rfl fun a hk => ?_
     refine sk hk rfl rfl rfl fun a hk => ?_
     refine sk hk rfl rfl rfl fun a hk => ?_
     refine sv (.bool true) hk rfl rfl rfl fun a hk => ?_
     show wpList _ _ _ [] _ _
     refine wpList_nil ?_
     obtain rfl := Option.some.inj H
     show R21 _ _
     rw [hR21]
     exact ⟨true, rfl, (hk.c 28 rfl hk.k), (hs.pick [] rfl)⟩
    ·have hk := hk.lit 24 c24 rfl
     refine sm _ rfl hk rfl rfl rfl fun a hk => ?_
     refine sm _ rfl hk rfl rfl rfl fun a hk => ?_
     refine sv (.bool (y11.2 != y7.2)) hk rfl rfl rfl fun a hk => ?_
     refine sv (.bool (y11.2 != y7.2)) hk rfl rfl rfl fun a hk => ?_
     show wpList _ _ _ [] _ _
     refine wpList_nil ?_
     obtain rfl := Option.some.inj H
     show R21 _ _
     rw [hR21]
     exact ⟨(y11.2 != y7.2), rfl, (hk.c 28 rfl hk.k), (hs.pick [] rfl)⟩
   ·intro a w hR0
    rw [hR21] at hR0
    obtain ⟨u17, rfl, hk, hs⟩ := hR0
    have H := HL20
    try dsimp only at H
    refine hK15 _ _ ?_
    rcases cond_some H with ⟨c25, H⟩ | ⟨c25, H⟩
    ·have hk := hk.lit 28 c25 rfl
     refine cnd_true hk rfl rfl ?_
     apply wp_seq_k; intro K26 hK26
     apply wp_region_lit
     refine sa _ rfl hk rfl rfl rfl fun a hk => ?_
     show wpList _ _ _ [] _ _
     refine wpList_nil ?_
     refine hK26 _ _ ?_
     refine wp_ret ?_
     obtain rfl := Option.some.inj H
     exact fin hk _ [(.bool false)] rfl ⟨rfl, trivial⟩ ⟨rfl, (hs.pick [] rfl).dnil⟩
    ·have hk := hk.lit 28 c25 rfl
     refine cnd_false hk rfl rfl ?_
     refine wp_skip ?_
     refine hK14 _ _ ?_
     apply wp_seq_k; intro K27 hK27
     apply wp_region_lit
     refine sa _ rfl hk rfl rfl rfl fun a hk => ?_
     show wpList _ _ _ [] _ _
     refine wpList_nil ?_
     refine hK27 _ _ ?_
     have hs := hs.pick [] rfl
     refine wp_ret ?_
     obtain rfl := Option.some.inj H
     exact fin hk _ [(.bool true)] rfl ⟨rfl, trivial⟩ ⟨rfl, (hs.pick [] rfl).dnil⟩

end Go.Proofs.YtfjhdkmdidadiaaDoor
