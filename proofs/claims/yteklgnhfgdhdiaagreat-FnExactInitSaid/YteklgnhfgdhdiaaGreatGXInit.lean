/- The functions that FnExactInit reaches: for each a model and the walk that shows that the Go code comes to it. -/
import Derived.Test.YteklgnhfgdhdiaaGreatT
namespace Go.Proofs.YteklgnhfgdhdiaaGreat
open Go Go.Z Go.Proofs Go.MuLone Go.ChangeShapes Go.WideShapes Go.ChangeAt Go.RowKit
set_option linter.unusedVariables false
set_option linter.unusedSimpArgs false
set_option maxRecDepth 100000
set_option maxHeartbeats 0
open Go.IntKind renaming wrap → wR, i64 → iS, u32 → iU, u8 → iB
open Go.Value renaming int → vI, string → vS, slice → vL, pointer → vP
open BitVec renaming ofInt → bO
noncomputable def spec_l01In.f (x0:Int) (x1:Int) (x2:Int):Option (Bool) :=
  (((bif (decide (x1≤x0)) then (some (decide (x0≤x2))) else (some false)):Option (Bool)).bind fun u4=>(some u4))
theorem spec_l01In_t (w0:World) (x0:Int) (x1:Int) (x2:Int) (r:Bool) (H:spec_l01In.f x0 x1 x2=some r) :
    Calls Tryz.prog 24 #[vI iS x0,vI iS x1,vI iS x2] w0 (Ret (fun v w=>v = .bool r∧Sat [] w0 w [] [])):=by
 have hs:=sat0 w0 [] (by simp)
 unfold spec_l01In.f at H
 refine enter Tryz.func24 rfl Tryz.ntmps24 rfl fun a hk=>sr fun _ hK1=>mv hk rfl fun a hk=>nx hK1 <| sq fun _ hK2=>?_
 obtain ⟨o5,h6,HL7⟩:=bind_some H
 clear H
 obtain ⟨R8,hR8⟩:=nm fun a w=>∃ (u4:Bool),u4=o5∧Kn [(6,(.bool u4))] 15 a∧Sat [] w0 w [] []
 refine wp_cutq R8 ?_ ?_
 ·have H:=h6
  apply wp_region_lit
  refine mv hk rfl fun a hk=>mv hk rfl fun a hk=>sv (.bool (decide (x1≤x0))) hk rfl rfl rfl fun a hk=>mv hk rfl fun a hk=>?_
  rcases cond_some H with ⟨c9,H⟩ | ⟨c9,H⟩
  ·have hk:=hk.lit 10 c9 rfl
   refine mv hk rfl fun a hk=>mv hk rfl fun a hk=>sv (.bool (decide (x0≤x2))) hk rfl rfl rfl fun a hk=>sv (.bool (decide (x0≤x2))) hk rfl rfl rfl fun a hk=>mv hk rfl fun a hk=>?_
   show wpList _ _ _ [] _ _
   refine wpList_nil ?_
   obtain rfl:=osi H
   show R8 _ _
   rw [hR8]
   exact ⟨(decide (x0≤x2)),rfl,(hk.al rfl),(hs.pick [] rfl)⟩
  have hk:=hk.lit 10 c9 rfl
  refine sk hk rfl rfl rfl fun a hk=>sk hk rfl rfl rfl fun a hk=>sk hk rfl rfl rfl fun a hk=>sv (.bool false) hk rfl rfl rfl fun a hk=>mv hk rfl fun a hk=>?_
  show wpList _ _ _ [] _ _
  refine wpList_nil ?_
  obtain rfl:=osi H
  show R8 _ _
  rw [hR8]
  exact ⟨false,rfl,(hk.al rfl),(hs.pick [] rfl)⟩
 intro a w hR0
 rw [hR8] at hR0
 obtain ⟨u4,rfl,hk,hs⟩:=hR0
 have H:=HL7
 try dsimp only at H
 refine hK2 _ _ <| wp_ret ?_
 obtain rfl:=osi H
 exact fin hk _ [(.bool u4)] rfl ⟨rfl,trivial⟩ ⟨rfl,(hs.pick [] rfl).dnil⟩
noncomputable def spec_l08Leaves.s0 (l0:List Int) (u6:Int):Option ((Int) ⊕ Ex (Unit) (Bool)) :=
  (bif (decide (u6<(l0.length:Int))) then (if 0≤u6∧u6<(l0.length:Int) then ((spec_l01In.f (l0.getD u6.toNat 0) 0 7).bind fun y24=>(bif (!y24) then (some (.inr (.ret false))) else (some (.inl (w64 (u6+1)))))) else none) else (some (.inr (.out ()))))
noncomputable def spec_l08Leaves.f (l0:List Int):Option (Bool) :=
  ((loopO (fun s=>spec_l08Leaves.s0 l0 s) 0).bind fun o=>match o with | .out _=>(some true) | .ret r=>(some r))
theorem spec_l08Leaves_t (w0:World) (A0_:Option Addr) (p0_:Nat) (l0:List Int) (k0_:Chunk) (v0_:View (Lay.int iS) A0_ p0_ l0 k0_) (w0_:Has w0 k0_) (r:Bool) (H:spec_l08Leaves.f l0=some r) :
    Calls Tryz.prog 12 #[vL A0_ l0.length p0_] w0 (Ret (fun v w=>v = .bool r∧Sat [] w0 w [] [])):=by
 have hs:=sat0 w0 [(1,k0_)] (by simp only [List.mem_cons,List.not_mem_nil,or_false];rintro x (rfl) <;> assumption)
 unfold spec_l08Leaves.f at H
 refine enter Tryz.func12 rfl Tryz.ntmps12 rfl fun a hk=>sr fun _ hK1=>mv hk rfl fun a hk=>nx hK1 <| sq fun _ hK2=>sr fun _ hK3=>mv hk rfl fun a hk=>nx hK3 ?_
 obtain ⟨o7,h8,HL9⟩:=bind_some H
 clear H
 obtain ⟨R10,hR10⟩:=nm fun a w=>o7 = .out ()∧Kn [] 16 a∧Sat [] w0 w [(1,k0_)] []
 refine wp_cutq R10 ?_ ?_
 ·refine wp_block ?_
  obtain ⟨fu12,h8⟩:=loopO_some h8
  obtain ⟨I11,hI11⟩:=nm fun fu a w=>∃ (u6:Int),loopN (fun s=>spec_l08Leaves.s0 l0 s) fu u6=some o7∧Kn [(0,(vL A0_ l0.length p0_)),(3,(vI iS u6))] 16 a∧Sat [] w0 w [(1,k0_)] []
  refine wp_loop_ghost I11 fu12 ?_ ?_
  ·rw [hI11]
   exact ⟨_,h8,(hk.al rfl),(hs.pick [] rfl)⟩
  clear h8 hk hs
  intro fu12 a w hI0
  rw [hI11] at hI0
  obtain ⟨u6,hi,hk,hs⟩:=hI0
  obtain ⟨x13,H,h14⟩:=loop_round hi
  try dsimp only at H
  unfold spec_l08Leaves.s0 at H
  refine sq fun _ hK15=>sr fun _ hK16=>mv hk rfl fun a hk=>mv hk rfl fun a hk=>sle rfl hk rfl rfl rfl un22 fun a hk=>sv (.bool (decide (u6<(l0.length:Int)))) hk rfl rfl rfl fun a hk=>nx hK16 ?_
  rcases cond_some H with ⟨c17,H⟩ | ⟨c17,H⟩
  ·have hk:=hk.lit 7 c17 rfl
   refine cnd_true hk rfl rfl <| wp_skip <| hK15 _ _ <| sq fun _ hK18=>wp_block ?_
   refine sr fun _ hK19=>mv hk rfl fun a hk=>mv hk rfl fun a hk=>?_
   obtain ⟨c20,H⟩:=ite_no H
   obtain ⟨b21,q22,hAc20⟩:=(v0_).some_ u6 c20.1 c20.2
   refine si rfl hk rfl rfl rfl rfl un22 sz3 c20.1 c20.2 hAc20 fun a hk=>?_
   obtain ⟨_,rfl,e23⟩:=(v0_).at_ 0 u6 c20.1 c20.2
   refine sl (v:=(vI iS (l0.getD u6.toNat 0))) rfl hk rfl rfl rfl ag3 ((e23 0 _ rfl).cell (hs.hasD (k:=1) rfl)) fun a hk=>?_
   obtain ⟨y24,h25,H⟩:=bind_some H
   refine sc rfl en24 hk rfl rfl rfl (spec_l01In_t _ (l0.getD u6.toNat 0) 0 7 _ h25) ?_
   rintro _ w ⟨rfl,hG⟩ a hk
   have hs:=hs.call0 hG
   refine sv (.bool (!y24)) hk rfl rfl rfl fun a hk=>nx hK19 ?_
   rcases cond_some H with ⟨c26,H⟩ | ⟨c26,H⟩
   ·have hk:=hk.lit 15 c26 rfl
    refine cnd_true hk rfl rfl <| sr fun _ hK27=>mv hk rfl fun a hk=>nx hK27 <| wp_ret ?_
    obtain rfl:=osi H
    have ho7:=h14
    try dsimp only at ho7
    subst ho7
    have H:=HL9
    try dsimp only at H
    obtain rfl:=osi H
    exact fin hk _ [(.bool false)] rfl ⟨rfl,trivial⟩ ⟨rfl,(hs.pick [] rfl).dnil⟩
   have hk:=hk.lit 15 c26 rfl
   refine cnd_false hk rfl rfl <| wp_skip <| hK18 _ _ ?_
   apply wp_region_lit
   refine mv hk rfl fun a hk=>sv (vI iS (w64 (u6+1))) hk rfl rfl rfl fun a hk=>mv hk rfl fun a hk=>?_
   show wpList _ _ _ [] _ _
   refine wpList_nil ?_
   obtain rfl:=osi H
   obtain ⟨m28,hmm28,h14⟩:=h14
   show ∃ n',n'<_∧I11 n' _ _
   refine ⟨m28,hmm28,?_⟩
   rw [hI11]
   exact ⟨_,h14,(hk.al rfl),(hs.pick [] rfl)⟩
  have hk:=hk.lit 7 c17 rfl
  refine cnd_false hk rfl rfl <| wp_exit ?_
  obtain rfl:=osi H
  show R10 _ _
  rw [hR10]
  exact ⟨h14.symm,hk.k,(hs.pick [] rfl)⟩
 intro a w hR0
 rw [hR10] at hR0
 obtain ⟨rfl,hk,hs⟩:=hR0
 have H:=HL9
 try dsimp only at H
 refine hK2 _ _ <| sr fun _ hK29=>mv hk rfl fun a hk=>nx hK29 <| wp_ret ?_
 obtain rfl:=osi H
 exact fin hk _ [(.bool true)] rfl ⟨rfl,trivial⟩ ⟨rfl,(hs.pick [] rfl).dnil⟩
noncomputable def spec_l08New.f (l0:List Int):Option (S_Oram) :=
  (if ([]:List Int).length+l0.length≤1073741824 then (if 0≤(15:Int)∧(15:Int)≤1073741824 then (some (⟨(([]:List Int)++l0),([]:List S_Block),(List.replicate ((15:Int)).toNat ([]:List S_Block))⟩:S_Oram)) else none) else none)
theorem spec_l08New_t (w0:World) (A0_:Option Addr) (p0_:Nat) (l0:List Int) (k0_:Chunk) (v0_:View (Lay.int iS) A0_ p0_ l0 k0_) (w0_:Has w0 k0_) (r:S_Oram) (H:spec_l08New.f l0=some r) :
    Calls Tryz.prog 71 #[vL A0_ l0.length p0_] w0 (Ret (fun v w=>∃ (A0:Option Addr) (p0:Nat) (k0:Chunk),∃ (A1:Option Addr) (p1:Nat) (k1:Chunk),∃ (A2:Option Addr) (p2:Nat) (k2:Chunk),v = .agg #[vL A0 r.Pos.length p0,vL A1 r.Stash.length p1,vL A2 r.Buckets.length p2]∧Own (Lay.int iS) 3 A0 p0 r.Pos k0∧Own L_Block 100 A1 p1 r.Stash k1∧Own (Lay.sl L_Block 100) 42 A2 p2 r.Buckets k2∧Sat [] w0 w [] [(0,k0),(1,k1),(2,k2)])):=by
 have hs:=sat0 w0 [(1,k0_)] (by simp only [List.mem_cons,List.not_mem_nil,or_false];rintro x (rfl) <;> assumption)
 unfold spec_l08New.f at H
 refine enter Tryz.func71 rfl Tryz.ntmps71 rfl fun a hk=>sr fun _ hK1=>salx 2 hs rfl hk rfl rfl ze45 rfl fun b2 w a hk hs=>nx hK1 <| sq fun _ hK3=>?_
 obtain ⟨c_r4_2_1,H⟩:=ite_no H
 obtain ⟨c_r4_4_1,H⟩:=ite_no H
 obtain ⟨R5,hR5⟩:=nm fun a w=>∃ (A_r4_2_2:Option Addr) (p_r4_2_3:Nat) (b_r4_3_1:Nat) (b_r4_4_2:Nat) (k_r4_2_4:Chunk) (k_r4_3_2:Chunk) (k_r4_4_3:Chunk),Kn [(2,(vP (some ⟨b2,0,none⟩)))] 9 a∧Sat [] w0 w [(1,k0_)] [(2,[(b2,.cells #[vL A_r4_2_2 (([]:List Int)++l0).length p_r4_2_3,vL (some ⟨b_r4_3_1,0,none⟩) 0 0,vL (some ⟨b_r4_4_2,0,none⟩) (((15:Int)).toNat) (((15:Int)).toNat)] 45 (0,0))]),(103001,k_r4_2_4),(103061,k_r4_3_2),(103081,k_r4_4_3)]∧Own (Lay.int iS) 3 A_r4_2_2 p_r4_2_3 (([]:List Int)++l0) k_r4_2_4∧Own L_Block 100 (some ⟨b_r4_3_1,0,none⟩) 0 ([]:List S_Block) k_r4_3_2∧Own (Lay.sl L_Block 100) 42 (some ⟨b_r4_4_2,0,none⟩) (((15:Int)).toNat) (List.replicate ((15:Int)).toNat ([]:List S_Block)) k_r4_4_3∧(List.replicate ((15:Int)).toNat ([]:List S_Block)).length=(((15:Int)).toNat)
 refine wp_cutq R5 ?_ ?_
 ·skip
  refine wp_region_tree (.q 1 (.alt 0 (.alt 2 (.alt 3 (.alt 4 (.alt 5 (.last 6) .stop) .stop) (.alt 4 (.alt 3 (.alt 5 (.last 6) .stop) .stop) .stop)) (.alt 3 (.alt 2 (.alt 4 (.alt 5 (.last 6) .stop) .stop) (.alt 4 (.alt 2 (.alt 5 (.last 6) .stop) .stop) .stop)) (.alt 4 (.alt 2 (.alt 3 (.alt 5 (.last 6) .stop) .stop) (.alt 3 (.alt 2 (.alt 5 (.last 6) .stop) .stop) .stop)) .stop))) (.alt 3 (.alt 0 (.alt 2 (.alt 4 (.alt 5 (.last 6) .stop) .stop) (.alt 4 (.alt 2 (.alt 5 (.last 6) .stop) .stop) .stop)) (.alt 4 (.alt 0 (.alt 2 (.alt 5 (.last 6) .stop) .stop) .stop) .stop)) (.alt 4 (.alt 0 (.alt 2 (.alt 3 (.alt 5 (.last 6) .stop) .stop) (.alt 3 (.alt 2 (.alt 5 (.last 6) .stop) .stop) .stop)) (.alt 3 (.alt 0 (.alt 2 (.alt 5 (.last 6) .stop) .stop) .stop) .stop)) .stop)))) mo (by kernel_rfl) (hs.pick [(2,2)] rfl) fun _=>?_
  have hs:=hs.drew
  refine tqm hk rfl fun a hk=>tsst hk rfl rfl (fun K_r4_0 hK_r4_0 w hF=>?_) ?_
  ·skip
   have hs:=hs.f hF
   refine sbs0 103001 (Lay.int iS) hs rfl hk rfl rfl un22 sz3 fun b_r4_0_1 k_r4_0_2 w a hk o_r4_0_3 hs=>se (hs.pick [(2,2)] rfl) hk (hK_r4_0 _ _ ?_)
   refine tsst hk rfl rfl (fun K_r4_2 hK_r4_2 w hF=>?_) ?_
   ·skip
    have hs:=hs.f hF
    refine sap 103001 (xs:=([]:List Int)) (ys:=l0) (flat_flat:((Lay.int iS)).Flat) hs rfl o_r4_0_3 v0_ (hs.hasD (k:=1) rfl) rfl hk rfl rfl rfl rfl rfl rfl un22 mk3 rfl rfl rfl c_r4_2_1 fun A_r4_2_2 p_r4_2_3 k_r4_2_4 w a hk o_r4_2_5 hs=>se (hs.pick [(2,2)] rfl) hk (hK_r4_2 _ _ ?_)
    refine tsst hk rfl rfl (fun K_r4_3 hK_r4_3 w hF=>?_) ?_
    ·skip
     have hs:=hs.f hF
     refine sbs0 103061 L_Block hs rfl hk rfl rfl un42 sz100 fun b_r4_3_1 k_r4_3_2 w a hk o_r4_3_3 hs=>se (hs.pick [(2,2)] rfl) hk (hK_r4_3 _ _ ?_)
     refine tss hs hk rfl rfl fun _ hK_r4_4 w hs=>smk 103081 (Lay.sl L_Block 100) hs rfl hk rfl rfl rfl rfl un43 mk42 lz42 rfl rfl c_r4_4_1.1 c_r4_4_1.2 fun b_r4_4_2 k_r4_4_3 w a hk o_r4_4_4 hs=>?_
     have lh_r4_4_5:(List.replicate ((15:Int)).toNat ([]:List S_Block)).length=((15:Int)).toNat:=List.length_replicate
     refine se (hs.pick [(2,2)] rfl) hk (hK_r4_4 _ _ ?_)
     refine tss hs hk rfl rfl fun _ hK_r4_5 w hs=>sbd (pv:=[(0,(vL A_r4_2_2 (([]:List Int)++l0).length p_r4_2_3)),(1,(vL (some ⟨b_r4_3_1,0,none⟩) 0 0)),(2,(vL (some ⟨b_r4_4_2,0,none⟩) (((15:Int)).toNat) (((15:Int)).toNat)))]) rfl hk rfl rfl rfl (bd45_0 A_r4_2_2 ((([]:List Int)++l0).length) p_r4_2_3 (some ⟨b_r4_3_1,0,none⟩) 0 0 (some ⟨b_r4_4_2,0,none⟩) (((15:Int)).toNat) (((15:Int)).toNat)) fun a hk=>se (hs.pick [(2,2)] rfl) hk (hK_r4_5 _ _ ?_)
     refine tlst hk rfl rfl fun K_r4_6 hK_r4_6 w hF=>?_
     have hs:=hs.f hF
     refine ssw 2 hs rfl rfl hk rfl rfl rfl rfl sz45 (by simp [Value.oneCell']) rfl fun w a hk hs=>se trivial hk (hK_r4_6 _ _ fun w hF=>?_)
     have hs:=hs.f hF
     show R5 _ _
     rw [hR5]
     exact ⟨A_r4_2_2,p_r4_2_3,b_r4_3_1,b_r4_4_2,k_r4_2_4,k_r4_3_2,k_r4_4_3,(hk.al rfl),(hs.pick [(2,2),(103001,103001),(103061,103061),(103081,103081)] rfl),o_r4_2_5,o_r4_3_3,o_r4_4_4,lh_r4_4_5⟩
    refine tss hs hk rfl rfl fun _ hK_r4_4 w hs=>smk 103081 (Lay.sl L_Block 100) hs rfl hk rfl rfl rfl rfl un43 mk42 lz42 rfl rfl c_r4_4_1.1 c_r4_4_1.2 fun b_r4_4_2 k_r4_4_3 w a hk o_r4_4_4 hs=>?_
    have lh_r4_4_5:(List.replicate ((15:Int)).toNat ([]:List S_Block)).length=((15:Int)).toNat:=List.length_replicate
    refine se (hs.pick [(2,2)] rfl) hk (hK_r4_4 _ _ ?_)
    refine tss hs hk rfl rfl fun _ hK_r4_3 w hs=>sbs0 103061 L_Block hs rfl hk rfl rfl un42 sz100 fun b_r4_3_1 k_r4_3_2 w a hk o_r4_3_3 hs=>se (hs.pick [(2,2)] rfl) hk (hK_r4_3 _ _ ?_)
    refine tss hs hk rfl rfl fun _ hK_r4_5 w hs=>sbd (pv:=[(0,(vL A_r4_2_2 (([]:List Int)++l0).length p_r4_2_3)),(1,(vL (some ⟨b_r4_3_1,0,none⟩) 0 0)),(2,(vL (some ⟨b_r4_4_2,0,none⟩) (((15:Int)).toNat) (((15:Int)).toNat)))]) rfl hk rfl rfl rfl (bd45_0 A_r4_2_2 ((([]:List Int)++l0).length) p_r4_2_3 (some ⟨b_r4_3_1,0,none⟩) 0 0 (some ⟨b_r4_4_2,0,none⟩) (((15:Int)).toNat) (((15:Int)).toNat)) fun a hk=>se (hs.pick [(2,2)] rfl) hk (hK_r4_5 _ _ ?_)
    refine tlst hk rfl rfl fun K_r4_6 hK_r4_6 w hF=>?_
    have hs:=hs.f hF
    refine ssw 2 hs rfl rfl hk rfl rfl rfl rfl sz45 (by simp [Value.oneCell']) rfl fun w a hk hs=>se trivial hk (hK_r4_6 _ _ fun w hF=>?_)
    have hs:=hs.f hF
    show R5 _ _
    rw [hR5]
    exact ⟨A_r4_2_2,p_r4_2_3,b_r4_3_1,b_r4_4_2,k_r4_2_4,k_r4_3_2,k_r4_4_3,(hk.al rfl),(hs.pick [(2,2),(103001,103001),(103061,103061),(103081,103081)] rfl),o_r4_2_5,o_r4_3_3,o_r4_4_4,lh_r4_4_5⟩
   refine tsst hk rfl rfl (fun K_r4_3 hK_r4_3 w hF=>?_) ?_
   ·skip
    have hs:=hs.f hF
    refine sbs0 103061 L_Block hs rfl hk rfl rfl un42 sz100 fun b_r4_3_1 k_r4_3_2 w a hk o_r4_3_3 hs=>se (hs.pick [(2,2)] rfl) hk (hK_r4_3 _ _ ?_)
    refine tsst hk rfl rfl (fun K_r4_2 hK_r4_2 w hF=>?_) ?_
    ·skip
     have hs:=hs.f hF
     refine sap 103001 (xs:=([]:List Int)) (ys:=l0) (flat_flat:((Lay.int iS)).Flat) hs rfl o_r4_0_3 v0_ (hs.hasD (k:=1) rfl) rfl hk rfl rfl rfl rfl rfl rfl un22 mk3 rfl rfl rfl c_r4_2_1 fun A_r4_2_2 p_r4_2_3 k_r4_2_4 w a hk o_r4_2_5 hs=>se (hs.pick [(2,2)] rfl) hk (hK_r4_2 _ _ ?_)
     refine tss hs hk rfl rfl fun _ hK_r4_4 w hs=>smk 103081 (Lay.sl L_Block 100) hs rfl hk rfl rfl rfl rfl un43 mk42 lz42 rfl rfl c_r4_4_1.1 c_r4_4_1.2 fun b_r4_4_2 k_r4_4_3 w a hk o_r4_4_4 hs=>?_
     have lh_r4_4_5:(List.replicate ((15:Int)).toNat ([]:List S_Block)).length=((15:Int)).toNat:=List.length_replicate
     refine se (hs.pick [(2,2)] rfl) hk (hK_r4_4 _ _ ?_)
     refine tss hs hk rfl rfl fun _ hK_r4_5 w hs=>sbd (pv:=[(0,(vL A_r4_2_2 (([]:List Int)++l0).length p_r4_2_3)),(1,(vL (some ⟨b_r4_3_1,0,none⟩) 0 0)),(2,(vL (some ⟨b_r4_4_2,0,none⟩) (((15:Int)).toNat) (((15:Int)).toNat)))]) rfl hk rfl rfl rfl (bd45_0 A_r4_2_2 ((([]:List Int)++l0).length) p_r4_2_3 (some ⟨b_r4_3_1,0,none⟩) 0 0 (some ⟨b_r4_4_2,0,none⟩) (((15:Int)).toNat) (((15:Int)).toNat)) fun a hk=>se (hs.pick [(2,2)] rfl) hk (hK_r4_5 _ _ ?_)
     refine tlst hk rfl rfl fun K_r4_6 hK_r4_6 w hF=>?_
     have hs:=hs.f hF
     refine ssw 2 hs rfl rfl hk rfl rfl rfl rfl sz45 (by simp [Value.oneCell']) rfl fun w a hk hs=>se trivial hk (hK_r4_6 _ _ fun w hF=>?_)
     have hs:=hs.f hF
     show R5 _ _
     rw [hR5]
     exact ⟨A_r4_2_2,p_r4_2_3,b_r4_3_1,b_r4_4_2,k_r4_2_4,k_r4_3_2,k_r4_4_3,(hk.al rfl),(hs.pick [(2,2),(103001,103001),(103061,103061),(103081,103081)] rfl),o_r4_2_5,o_r4_3_3,o_r4_4_4,lh_r4_4_5⟩
    refine tss hs hk rfl rfl fun _ hK_r4_4 w hs=>smk 103081 (Lay.sl L_Block 100) hs rfl hk rfl rfl rfl rfl un43 mk42 lz42 rfl rfl c_r4_4_1.1 c_r4_4_1.2 fun b_r4_4_2 k_r4_4_3 w a hk o_r4_4_4 hs=>?_
    have lh_r4_4_5:(List.replicate ((15:Int)).toNat ([]:List S_Block)).length=((15:Int)).toNat:=List.length_replicate
    refine se (hs.pick [(2,2)] rfl) hk (hK_r4_4 _ _ ?_)
    refine tss hs hk rfl rfl fun _ hK_r4_2 w hs=>sap 103001 (xs:=([]:List Int)) (ys:=l0) (flat_flat:((Lay.int iS)).Flat) hs rfl o_r4_0_3 v0_ (hs.hasD (k:=1) rfl) rfl hk rfl rfl rfl rfl rfl rfl un22 mk3 rfl rfl rfl c_r4_2_1 fun A_r4_2_2 p_r4_2_3 k_r4_2_4 w a hk o_r4_2_5 hs=>se (hs.pick [(2,2)] rfl) hk (hK_r4_2 _ _ ?_)
    refine tss hs hk rfl rfl fun _ hK_r4_5 w hs=>sbd (pv:=[(0,(vL A_r4_2_2 (([]:List Int)++l0).length p_r4_2_3)),(1,(vL (some ⟨b_r4_3_1,0,none⟩) 0 0)),(2,(vL (some ⟨b_r4_4_2,0,none⟩) (((15:Int)).toNat) (((15:Int)).toNat)))]) rfl hk rfl rfl rfl (bd45_0 A_r4_2_2 ((([]:List Int)++l0).length) p_r4_2_3 (some ⟨b_r4_3_1,0,none⟩) 0 0 (some ⟨b_r4_4_2,0,none⟩) (((15:Int)).toNat) (((15:Int)).toNat)) fun a hk=>se (hs.pick [(2,2)] rfl) hk (hK_r4_5 _ _ ?_)
    refine tlst hk rfl rfl fun K_r4_6 hK_r4_6 w hF=>?_
    have hs:=hs.f hF
    refine ssw 2 hs rfl rfl hk rfl rfl rfl rfl sz45 (by simp [Value.oneCell']) rfl fun w a hk hs=>se trivial hk (hK_r4_6 _ _ fun w hF=>?_)
    have hs:=hs.f hF
    show R5 _ _
    rw [hR5]
    exact ⟨A_r4_2_2,p_r4_2_3,b_r4_3_1,b_r4_4_2,k_r4_2_4,k_r4_3_2,k_r4_4_3,(hk.al rfl),(hs.pick [(2,2),(103001,103001),(103061,103061),(103081,103081)] rfl),o_r4_2_5,o_r4_3_3,o_r4_4_4,lh_r4_4_5⟩
   refine tss hs hk rfl rfl fun _ hK_r4_4 w hs=>smk 103081 (Lay.sl L_Block 100) hs rfl hk rfl rfl rfl rfl un43 mk42 lz42 rfl rfl c_r4_4_1.1 c_r4_4_1.2 fun b_r4_4_2 k_r4_4_3 w a hk o_r4_4_4 hs=>?_
   have lh_r4_4_5:(List.replicate ((15:Int)).toNat ([]:List S_Block)).length=((15:Int)).toNat:=List.length_replicate
   refine se (hs.pick [(2,2)] rfl) hk (hK_r4_4 _ _ ?_)
   refine tsst hk rfl rfl (fun K_r4_2 hK_r4_2 w hF=>?_) ?_
   ·skip
    have hs:=hs.f hF
    refine sap 103001 (xs:=([]:List Int)) (ys:=l0) (flat_flat:((Lay.int iS)).Flat) hs rfl o_r4_0_3 v0_ (hs.hasD (k:=1) rfl) rfl hk rfl rfl rfl rfl rfl rfl un22 mk3 rfl rfl rfl c_r4_2_1 fun A_r4_2_2 p_r4_2_3 k_r4_2_4 w a hk o_r4_2_5 hs=>se (hs.pick [(2,2)] rfl) hk (hK_r4_2 _ _ ?_)
    refine tss hs hk rfl rfl fun _ hK_r4_3 w hs=>sbs0 103061 L_Block hs rfl hk rfl rfl un42 sz100 fun b_r4_3_1 k_r4_3_2 w a hk o_r4_3_3 hs=>se (hs.pick [(2,2)] rfl) hk (hK_r4_3 _ _ ?_)
    refine tss hs hk rfl rfl fun _ hK_r4_5 w hs=>sbd (pv:=[(0,(vL A_r4_2_2 (([]:List Int)++l0).length p_r4_2_3)),(1,(vL (some ⟨b_r4_3_1,0,none⟩) 0 0)),(2,(vL (some ⟨b_r4_4_2,0,none⟩) (((15:Int)).toNat) (((15:Int)).toNat)))]) rfl hk rfl rfl rfl (bd45_0 A_r4_2_2 ((([]:List Int)++l0).length) p_r4_2_3 (some ⟨b_r4_3_1,0,none⟩) 0 0 (some ⟨b_r4_4_2,0,none⟩) (((15:Int)).toNat) (((15:Int)).toNat)) fun a hk=>se (hs.pick [(2,2)] rfl) hk (hK_r4_5 _ _ ?_)
    refine tlst hk rfl rfl fun K_r4_6 hK_r4_6 w hF=>?_
    have hs:=hs.f hF
    refine ssw 2 hs rfl rfl hk rfl rfl rfl rfl sz45 (by simp [Value.oneCell']) rfl fun w a hk hs=>se trivial hk (hK_r4_6 _ _ fun w hF=>?_)
    have hs:=hs.f hF
    show R5 _ _
    rw [hR5]
    exact ⟨A_r4_2_2,p_r4_2_3,b_r4_3_1,b_r4_4_2,k_r4_2_4,k_r4_3_2,k_r4_4_3,(hk.al rfl),(hs.pick [(2,2),(103001,103001),(103061,103061),(103081,103081)] rfl),o_r4_2_5,o_r4_3_3,o_r4_4_4,lh_r4_4_5⟩
   refine tss hs hk rfl rfl fun _ hK_r4_3 w hs=>sbs0 103061 L_Block hs rfl hk rfl rfl un42 sz100 fun b_r4_3_1 k_r4_3_2 w a hk o_r4_3_3 hs=>se (hs.pick [(2,2)] rfl) hk (hK_r4_3 _ _ ?_)
   refine tss hs hk rfl rfl fun _ hK_r4_2 w hs=>sap 103001 (xs:=([]:List Int)) (ys:=l0) (flat_flat:((Lay.int iS)).Flat) hs rfl o_r4_0_3 v0_ (hs.hasD (k:=1) rfl) rfl hk rfl rfl rfl rfl rfl rfl un22 mk3 rfl rfl rfl c_r4_2_1 fun A_r4_2_2 p_r4_2_3 k_r4_2_4 w a hk o_r4_2_5 hs=>se (hs.pick [(2,2)] rfl) hk (hK_r4_2 _ _ ?_)
   refine tss hs hk rfl rfl fun _ hK_r4_5 w hs=>sbd (pv:=[(0,(vL A_r4_2_2 (([]:List Int)++l0).length p_r4_2_3)),(1,(vL (some ⟨b_r4_3_1,0,none⟩) 0 0)),(2,(vL (some ⟨b_r4_4_2,0,none⟩) (((15:Int)).toNat) (((15:Int)).toNat)))]) rfl hk rfl rfl rfl (bd45_0 A_r4_2_2 ((([]:List Int)++l0).length) p_r4_2_3 (some ⟨b_r4_3_1,0,none⟩) 0 0 (some ⟨b_r4_4_2,0,none⟩) (((15:Int)).toNat) (((15:Int)).toNat)) fun a hk=>se (hs.pick [(2,2)] rfl) hk (hK_r4_5 _ _ ?_)
   refine tlst hk rfl rfl fun K_r4_6 hK_r4_6 w hF=>?_
   have hs:=hs.f hF
   refine ssw 2 hs rfl rfl hk rfl rfl rfl rfl sz45 (by simp [Value.oneCell']) rfl fun w a hk hs=>se trivial hk (hK_r4_6 _ _ fun w hF=>?_)
   have hs:=hs.f hF
   show R5 _ _
   rw [hR5]
   exact ⟨A_r4_2_2,p_r4_2_3,b_r4_3_1,b_r4_4_2,k_r4_2_4,k_r4_3_2,k_r4_4_3,(hk.al rfl),(hs.pick [(2,2),(103001,103001),(103061,103061),(103081,103081)] rfl),o_r4_2_5,o_r4_3_3,o_r4_4_4,lh_r4_4_5⟩
  refine tsst hk rfl rfl (fun K_r4_3 hK_r4_3 w hF=>?_) ?_
  ·skip
   have hs:=hs.f hF
   refine sbs0 103061 L_Block hs rfl hk rfl rfl un42 sz100 fun b_r4_3_1 k_r4_3_2 w a hk o_r4_3_3 hs=>se (hs.pick [(2,2)] rfl) hk (hK_r4_3 _ _ ?_)
   refine tsst hk rfl rfl (fun K_r4_0 hK_r4_0 w hF=>?_) ?_
   ·skip
    have hs:=hs.f hF
    refine sbs0 103001 (Lay.int iS) hs rfl hk rfl rfl un22 sz3 fun b_r4_0_1 k_r4_0_2 w a hk o_r4_0_3 hs=>se (hs.pick [(2,2)] rfl) hk (hK_r4_0 _ _ ?_)
    refine tsst hk rfl rfl (fun K_r4_2 hK_r4_2 w hF=>?_) ?_
    ·skip
     have hs:=hs.f hF
     refine sap 103001 (xs:=([]:List Int)) (ys:=l0) (flat_flat:((Lay.int iS)).Flat) hs rfl o_r4_0_3 v0_ (hs.hasD (k:=1) rfl) rfl hk rfl rfl rfl rfl rfl rfl un22 mk3 rfl rfl rfl c_r4_2_1 fun A_r4_2_2 p_r4_2_3 k_r4_2_4 w a hk o_r4_2_5 hs=>se (hs.pick [(2,2)] rfl) hk (hK_r4_2 _ _ ?_)
     refine tss hs hk rfl rfl fun _ hK_r4_4 w hs=>smk 103081 (Lay.sl L_Block 100) hs rfl hk rfl rfl rfl rfl un43 mk42 lz42 rfl rfl c_r4_4_1.1 c_r4_4_1.2 fun b_r4_4_2 k_r4_4_3 w a hk o_r4_4_4 hs=>?_
     have lh_r4_4_5:(List.replicate ((15:Int)).toNat ([]:List S_Block)).length=((15:Int)).toNat:=List.length_replicate
     refine se (hs.pick [(2,2)] rfl) hk (hK_r4_4 _ _ ?_)
     refine tss hs hk rfl rfl fun _ hK_r4_5 w hs=>sbd (pv:=[(0,(vL A_r4_2_2 (([]:List Int)++l0).length p_r4_2_3)),(1,(vL (some ⟨b_r4_3_1,0,none⟩) 0 0)),(2,(vL (some ⟨b_r4_4_2,0,none⟩) (((15:Int)).toNat) (((15:Int)).toNat)))]) rfl hk rfl rfl rfl (bd45_0 A_r4_2_2 ((([]:List Int)++l0).length) p_r4_2_3 (some ⟨b_r4_3_1,0,none⟩) 0 0 (some ⟨b_r4_4_2,0,none⟩) (((15:Int)).toNat) (((15:Int)).toNat)) fun a hk=>se (hs.pick [(2,2)] rfl) hk (hK_r4_5 _ _ ?_)
     refine tlst hk rfl rfl fun K_r4_6 hK_r4_6 w hF=>?_
     have hs:=hs.f hF
     refine ssw 2 hs rfl rfl hk rfl rfl rfl rfl sz45 (by simp [Value.oneCell']) rfl fun w a hk hs=>se trivial hk (hK_r4_6 _ _ fun w hF=>?_)
     have hs:=hs.f hF
     show R5 _ _
     rw [hR5]
     exact ⟨A_r4_2_2,p_r4_2_3,b_r4_3_1,b_r4_4_2,k_r4_2_4,k_r4_3_2,k_r4_4_3,(hk.al rfl),(hs.pick [(2,2),(103001,103001),(103061,103061),(103081,103081)] rfl),o_r4_2_5,o_r4_3_3,o_r4_4_4,lh_r4_4_5⟩
    refine tss hs hk rfl rfl fun _ hK_r4_4 w hs=>smk 103081 (Lay.sl L_Block 100) hs rfl hk rfl rfl rfl rfl un43 mk42 lz42 rfl rfl c_r4_4_1.1 c_r4_4_1.2 fun b_r4_4_2 k_r4_4_3 w a hk o_r4_4_4 hs=>?_
    have lh_r4_4_5:(List.replicate ((15:Int)).toNat ([]:List S_Block)).length=((15:Int)).toNat:=List.length_replicate
    refine se (hs.pick [(2,2)] rfl) hk (hK_r4_4 _ _ ?_)
    refine tss hs hk rfl rfl fun _ hK_r4_2 w hs=>sap 103001 (xs:=([]:List Int)) (ys:=l0) (flat_flat:((Lay.int iS)).Flat) hs rfl o_r4_0_3 v0_ (hs.hasD (k:=1) rfl) rfl hk rfl rfl rfl rfl rfl rfl un22 mk3 rfl rfl rfl c_r4_2_1 fun A_r4_2_2 p_r4_2_3 k_r4_2_4 w a hk o_r4_2_5 hs=>se (hs.pick [(2,2)] rfl) hk (hK_r4_2 _ _ ?_)
    refine tss hs hk rfl rfl fun _ hK_r4_5 w hs=>sbd (pv:=[(0,(vL A_r4_2_2 (([]:List Int)++l0).length p_r4_2_3)),(1,(vL (some ⟨b_r4_3_1,0,none⟩) 0 0)),(2,(vL (some ⟨b_r4_4_2,0,none⟩) (((15:Int)).toNat) (((15:Int)).toNat)))]) rfl hk rfl rfl rfl (bd45_0 A_r4_2_2 ((([]:List Int)++l0).length) p_r4_2_3 (some ⟨b_r4_3_1,0,none⟩) 0 0 (some ⟨b_r4_4_2,0,none⟩) (((15:Int)).toNat) (((15:Int)).toNat)) fun a hk=>se (hs.pick [(2,2)] rfl) hk (hK_r4_5 _ _ ?_)
    refine tlst hk rfl rfl fun K_r4_6 hK_r4_6 w hF=>?_
    have hs:=hs.f hF
    refine ssw 2 hs rfl rfl hk rfl rfl rfl rfl sz45 (by simp [Value.oneCell']) rfl fun w a hk hs=>se trivial hk (hK_r4_6 _ _ fun w hF=>?_)
    have hs:=hs.f hF
    show R5 _ _
    rw [hR5]
    exact ⟨A_r4_2_2,p_r4_2_3,b_r4_3_1,b_r4_4_2,k_r4_2_4,k_r4_3_2,k_r4_4_3,(hk.al rfl),(hs.pick [(2,2),(103001,103001),(103061,103061),(103081,103081)] rfl),o_r4_2_5,o_r4_3_3,o_r4_4_4,lh_r4_4_5⟩
   refine tss hs hk rfl rfl fun _ hK_r4_4 w hs=>smk 103081 (Lay.sl L_Block 100) hs rfl hk rfl rfl rfl rfl un43 mk42 lz42 rfl rfl c_r4_4_1.1 c_r4_4_1.2 fun b_r4_4_2 k_r4_4_3 w a hk o_r4_4_4 hs=>?_
   have lh_r4_4_5:(List.replicate ((15:Int)).toNat ([]:List S_Block)).length=((15:Int)).toNat:=List.length_replicate
   refine se (hs.pick [(2,2)] rfl) hk (hK_r4_4 _ _ ?_)
   refine tss hs hk rfl rfl fun _ hK_r4_0 w hs=>sbs0 103001 (Lay.int iS) hs rfl hk rfl rfl un22 sz3 fun b_r4_0_1 k_r4_0_2 w a hk o_r4_0_3 hs=>se (hs.pick [(2,2)] rfl) hk (hK_r4_0 _ _ ?_)
   refine tss hs hk rfl rfl fun _ hK_r4_2 w hs=>sap 103001 (xs:=([]:List Int)) (ys:=l0) (flat_flat:((Lay.int iS)).Flat) hs rfl o_r4_0_3 v0_ (hs.hasD (k:=1) rfl) rfl hk rfl rfl rfl rfl rfl rfl un22 mk3 rfl rfl rfl c_r4_2_1 fun A_r4_2_2 p_r4_2_3 k_r4_2_4 w a hk o_r4_2_5 hs=>se (hs.pick [(2,2)] rfl) hk (hK_r4_2 _ _ ?_)
   refine tss hs hk rfl rfl fun _ hK_r4_5 w hs=>sbd (pv:=[(0,(vL A_r4_2_2 (([]:List Int)++l0).length p_r4_2_3)),(1,(vL (some ⟨b_r4_3_1,0,none⟩) 0 0)),(2,(vL (some ⟨b_r4_4_2,0,none⟩) (((15:Int)).toNat) (((15:Int)).toNat)))]) rfl hk rfl rfl rfl (bd45_0 A_r4_2_2 ((([]:List Int)++l0).length) p_r4_2_3 (some ⟨b_r4_3_1,0,none⟩) 0 0 (some ⟨b_r4_4_2,0,none⟩) (((15:Int)).toNat) (((15:Int)).toNat)) fun a hk=>se (hs.pick [(2,2)] rfl) hk (hK_r4_5 _ _ ?_)
   refine tlst hk rfl rfl fun K_r4_6 hK_r4_6 w hF=>?_
   have hs:=hs.f hF
   refine ssw 2 hs rfl rfl hk rfl rfl rfl rfl sz45 (by simp [Value.oneCell']) rfl fun w a hk hs=>se trivial hk (hK_r4_6 _ _ fun w hF=>?_)
   have hs:=hs.f hF
   show R5 _ _
   rw [hR5]
   exact ⟨A_r4_2_2,p_r4_2_3,b_r4_3_1,b_r4_4_2,k_r4_2_4,k_r4_3_2,k_r4_4_3,(hk.al rfl),(hs.pick [(2,2),(103001,103001),(103061,103061),(103081,103081)] rfl),o_r4_2_5,o_r4_3_3,o_r4_4_4,lh_r4_4_5⟩
  refine tss hs hk rfl rfl fun _ hK_r4_4 w hs=>smk 103081 (Lay.sl L_Block 100) hs rfl hk rfl rfl rfl rfl un43 mk42 lz42 rfl rfl c_r4_4_1.1 c_r4_4_1.2 fun b_r4_4_2 k_r4_4_3 w a hk o_r4_4_4 hs=>?_
  have lh_r4_4_5:(List.replicate ((15:Int)).toNat ([]:List S_Block)).length=((15:Int)).toNat:=List.length_replicate
  refine se (hs.pick [(2,2)] rfl) hk (hK_r4_4 _ _ ?_)
  refine tsst hk rfl rfl (fun K_r4_0 hK_r4_0 w hF=>?_) ?_
  ·skip
   have hs:=hs.f hF
   refine sbs0 103001 (Lay.int iS) hs rfl hk rfl rfl un22 sz3 fun b_r4_0_1 k_r4_0_2 w a hk o_r4_0_3 hs=>se (hs.pick [(2,2)] rfl) hk (hK_r4_0 _ _ ?_)
   refine tsst hk rfl rfl (fun K_r4_2 hK_r4_2 w hF=>?_) ?_
   ·skip
    have hs:=hs.f hF
    refine sap 103001 (xs:=([]:List Int)) (ys:=l0) (flat_flat:((Lay.int iS)).Flat) hs rfl o_r4_0_3 v0_ (hs.hasD (k:=1) rfl) rfl hk rfl rfl rfl rfl rfl rfl un22 mk3 rfl rfl rfl c_r4_2_1 fun A_r4_2_2 p_r4_2_3 k_r4_2_4 w a hk o_r4_2_5 hs=>se (hs.pick [(2,2)] rfl) hk (hK_r4_2 _ _ ?_)
    refine tss hs hk rfl rfl fun _ hK_r4_3 w hs=>sbs0 103061 L_Block hs rfl hk rfl rfl un42 sz100 fun b_r4_3_1 k_r4_3_2 w a hk o_r4_3_3 hs=>se (hs.pick [(2,2)] rfl) hk (hK_r4_3 _ _ ?_)
    refine tss hs hk rfl rfl fun _ hK_r4_5 w hs=>sbd (pv:=[(0,(vL A_r4_2_2 (([]:List Int)++l0).length p_r4_2_3)),(1,(vL (some ⟨b_r4_3_1,0,none⟩) 0 0)),(2,(vL (some ⟨b_r4_4_2,0,none⟩) (((15:Int)).toNat) (((15:Int)).toNat)))]) rfl hk rfl rfl rfl (bd45_0 A_r4_2_2 ((([]:List Int)++l0).length) p_r4_2_3 (some ⟨b_r4_3_1,0,none⟩) 0 0 (some ⟨b_r4_4_2,0,none⟩) (((15:Int)).toNat) (((15:Int)).toNat)) fun a hk=>se (hs.pick [(2,2)] rfl) hk (hK_r4_5 _ _ ?_)
    refine tlst hk rfl rfl fun K_r4_6 hK_r4_6 w hF=>?_
    have hs:=hs.f hF
    refine ssw 2 hs rfl rfl hk rfl rfl rfl rfl sz45 (by simp [Value.oneCell']) rfl fun w a hk hs=>se trivial hk (hK_r4_6 _ _ fun w hF=>?_)
    have hs:=hs.f hF
    show R5 _ _
    rw [hR5]
    exact ⟨A_r4_2_2,p_r4_2_3,b_r4_3_1,b_r4_4_2,k_r4_2_4,k_r4_3_2,k_r4_4_3,(hk.al rfl),(hs.pick [(2,2),(103001,103001),(103061,103061),(103081,103081)] rfl),o_r4_2_5,o_r4_3_3,o_r4_4_4,lh_r4_4_5⟩
   refine tss hs hk rfl rfl fun _ hK_r4_3 w hs=>sbs0 103061 L_Block hs rfl hk rfl rfl un42 sz100 fun b_r4_3_1 k_r4_3_2 w a hk o_r4_3_3 hs=>se (hs.pick [(2,2)] rfl) hk (hK_r4_3 _ _ ?_)
   refine tss hs hk rfl rfl fun _ hK_r4_2 w hs=>sap 103001 (xs:=([]:List Int)) (ys:=l0) (flat_flat:((Lay.int iS)).Flat) hs rfl o_r4_0_3 v0_ (hs.hasD (k:=1) rfl) rfl hk rfl rfl rfl rfl rfl rfl un22 mk3 rfl rfl rfl c_r4_2_1 fun A_r4_2_2 p_r4_2_3 k_r4_2_4 w a hk o_r4_2_5 hs=>se (hs.pick [(2,2)] rfl) hk (hK_r4_2 _ _ ?_)
   refine tss hs hk rfl rfl fun _ hK_r4_5 w hs=>sbd (pv:=[(0,(vL A_r4_2_2 (([]:List Int)++l0).length p_r4_2_3)),(1,(vL (some ⟨b_r4_3_1,0,none⟩) 0 0)),(2,(vL (some ⟨b_r4_4_2,0,none⟩) (((15:Int)).toNat) (((15:Int)).toNat)))]) rfl hk rfl rfl rfl (bd45_0 A_r4_2_2 ((([]:List Int)++l0).length) p_r4_2_3 (some ⟨b_r4_3_1,0,none⟩) 0 0 (some ⟨b_r4_4_2,0,none⟩) (((15:Int)).toNat) (((15:Int)).toNat)) fun a hk=>se (hs.pick [(2,2)] rfl) hk (hK_r4_5 _ _ ?_)
   refine tlst hk rfl rfl fun K_r4_6 hK_r4_6 w hF=>?_
   have hs:=hs.f hF
   refine ssw 2 hs rfl rfl hk rfl rfl rfl rfl sz45 (by simp [Value.oneCell']) rfl fun w a hk hs=>se trivial hk (hK_r4_6 _ _ fun w hF=>?_)
   have hs:=hs.f hF
   show R5 _ _
   rw [hR5]
   exact ⟨A_r4_2_2,p_r4_2_3,b_r4_3_1,b_r4_4_2,k_r4_2_4,k_r4_3_2,k_r4_4_3,(hk.al rfl),(hs.pick [(2,2),(103001,103001),(103061,103061),(103081,103081)] rfl),o_r4_2_5,o_r4_3_3,o_r4_4_4,lh_r4_4_5⟩
  refine tss hs hk rfl rfl fun _ hK_r4_3 w hs=>sbs0 103061 L_Block hs rfl hk rfl rfl un42 sz100 fun b_r4_3_1 k_r4_3_2 w a hk o_r4_3_3 hs=>se (hs.pick [(2,2)] rfl) hk (hK_r4_3 _ _ ?_)
  refine tss hs hk rfl rfl fun _ hK_r4_0 w hs=>sbs0 103001 (Lay.int iS) hs rfl hk rfl rfl un22 sz3 fun b_r4_0_1 k_r4_0_2 w a hk o_r4_0_3 hs=>se (hs.pick [(2,2)] rfl) hk (hK_r4_0 _ _ ?_)
  refine tss hs hk rfl rfl fun _ hK_r4_2 w hs=>sap 103001 (xs:=([]:List Int)) (ys:=l0) (flat_flat:((Lay.int iS)).Flat) hs rfl o_r4_0_3 v0_ (hs.hasD (k:=1) rfl) rfl hk rfl rfl rfl rfl rfl rfl un22 mk3 rfl rfl rfl c_r4_2_1 fun A_r4_2_2 p_r4_2_3 k_r4_2_4 w a hk o_r4_2_5 hs=>se (hs.pick [(2,2)] rfl) hk (hK_r4_2 _ _ ?_)
  refine tss hs hk rfl rfl fun _ hK_r4_5 w hs=>sbd (pv:=[(0,(vL A_r4_2_2 (([]:List Int)++l0).length p_r4_2_3)),(1,(vL (some ⟨b_r4_3_1,0,none⟩) 0 0)),(2,(vL (some ⟨b_r4_4_2,0,none⟩) (((15:Int)).toNat) (((15:Int)).toNat)))]) rfl hk rfl rfl rfl (bd45_0 A_r4_2_2 ((([]:List Int)++l0).length) p_r4_2_3 (some ⟨b_r4_3_1,0,none⟩) 0 0 (some ⟨b_r4_4_2,0,none⟩) (((15:Int)).toNat) (((15:Int)).toNat)) fun a hk=>se (hs.pick [(2,2)] rfl) hk (hK_r4_5 _ _ ?_)
  refine tlst hk rfl rfl fun K_r4_6 hK_r4_6 w hF=>?_
  have hs:=hs.f hF
  refine ssw 2 hs rfl rfl hk rfl rfl rfl rfl sz45 (by simp [Value.oneCell']) rfl fun w a hk hs=>se trivial hk (hK_r4_6 _ _ fun w hF=>?_)
  have hs:=hs.f hF
  show R5 _ _
  rw [hR5]
  exact ⟨A_r4_2_2,p_r4_2_3,b_r4_3_1,b_r4_4_2,k_r4_2_4,k_r4_3_2,k_r4_4_3,(hk.al rfl),(hs.pick [(2,2),(103001,103001),(103061,103061),(103081,103081)] rfl),o_r4_2_5,o_r4_3_3,o_r4_4_4,lh_r4_4_5⟩
 intro a w hR0
 rw [hR5] at hR0
 obtain ⟨A_r4_2_2,p_r4_2_3,b_r4_3_1,b_r4_4_2,k_r4_2_4,k_r4_3_2,k_r4_4_3,hk,hs,o_r4_2_5,o_r4_3_3,o_r4_4_4,lh_r4_4_5⟩:=hR0
 refine hK3 _ _ <| wp_ret ?_
 obtain rfl:=osi H
 exact fin hk _ [(.agg #[vL A_r4_2_2 (([]:List Int)++l0).length p_r4_2_3,vL (some ⟨b_r4_3_1,0,none⟩) 0 0,vL (some ⟨b_r4_4_2,0,none⟩) (((15:Int)).toNat) (((15:Int)).toNat)])] rfl ⟨⟨_,rfl,run_loadN ag45 sz45 (box_cells hs (k:=2) rfl)⟩,trivial⟩ ⟨A_r4_2_2,p_r4_2_3,_,(some ⟨b_r4_3_1,0,none⟩),0,_,(some ⟨b_r4_4_2,0,none⟩),(((15:Int)).toNat),_,(by first | (rw [lh_r4_4_5];done) | (rw [lh_r4_4_5];rfl)),o_r4_2_5,o_r4_3_3,o_r4_4_4,(hs.pick [(0,103001),(1,103061),(2,103081)] rfl).dnil⟩
noncomputable def spec_NewOram.f (l0:List Int):Option (S_Oram×Int) :=
  (bif (decide ((l0.length:Int)>4096)) then (some ((⟨([]:List Int),([]:List S_Block),([]:List (List S_Block))⟩:S_Oram),2)) else (bif ((l0.length:Int) != 12) then (some ((⟨([]:List Int),([]:List S_Block),([]:List (List S_Block))⟩:S_Oram),8)) else ((spec_l08Leaves.f l0).bind fun y13=>(bif (!y13) then (some ((⟨([]:List Int),([]:List S_Block),([]:List (List S_Block))⟩:S_Oram),4)) else ((spec_l08New.f l0).bind fun y18=>(some (y18,0)))))))
theorem spec_NewOram_t (w0:World) (A0_:Option Addr) (p0_:Nat) (l0:List Int) (k0_:Chunk) (v0_:View (Lay.int iS) A0_ p0_ l0 k0_) (w0_:Has w0 k0_) (r:S_Oram×Int) (H:spec_NewOram.f l0=some r) :
    Calls Tryz.prog 46 #[vL A0_ l0.length p0_] w0 (Ret (fun v w=>∃ (A0:Option Addr) (p0:Nat) (k0:Chunk),∃ (A1:Option Addr) (p1:Nat) (k1:Chunk),∃ (A2:Option Addr) (p2:Nat) (k2:Chunk),v = .tuple #[.agg #[vL A0 r.1.Pos.length p0,vL A1 r.1.Stash.length p1,vL A2 r.1.Buckets.length p2],vI iS r.2]∧Own (Lay.int iS) 3 A0 p0 r.1.Pos k0∧Own L_Block 100 A1 p1 r.1.Stash k1∧Own (Lay.sl L_Block 100) 42 A2 p2 r.1.Buckets k2∧Sat [] w0 w [] [(0,k0),(1,k1),(2,k2)])):=by
 have hs:=sat0 w0 [(1,k0_)] (by simp only [List.mem_cons,List.not_mem_nil,or_false];rintro x (rfl) <;> assumption)
 unfold spec_NewOram.f at H
 refine enter Tryz.func46 rfl Tryz.ntmps46 rfl fun a hk=>sr fun _ hK1=>salx 2 hs rfl hk rfl rfl ze45 rfl fun b2 w a hk hs=>mv hk rfl fun a hk=>nx hK1 <| sq fun _ hK3=>sr fun _ hK4=>mv hk rfl fun a hk=>sle rfl hk rfl rfl rfl un22 fun a hk=>sv (.bool (decide ((l0.length:Int)>4096))) hk rfl rfl rfl fun a hk=>nx hK4 ?_
 rcases cond_some H with ⟨c5,H⟩ | ⟨c5,H⟩
 ·have hk:=hk.lit 6 c5 rfl
  refine cnd_true hk rfl rfl <| sr fun _ hK6=>sbd (pv:=[]) rfl hk rfl rfl rfl bd45_1 fun a hk=>ssw 2 hs rfl rfl hk rfl rfl rfl rfl sz45 (by simp [Value.oneCell']) rfl fun w a hk hs=>mv hk rfl fun a hk=>nx hK6 <| wp_ret ?_
  obtain rfl:=osi H
  have hs:=hs.addNil 3
  have hs:=hs.addNil 4
  have hs:=hs.addNil 5
  exact fin hk _ [(.agg #[vL none 0 0,vL none 0 0,vL none 0 0]),(vI iS 2)] rfl ⟨⟨_,rfl,run_loadN ag45 sz45 (box_cells hs (k:=2) rfl)⟩,⟨rfl,trivial⟩⟩ ⟨none,0,[],none,0,[],none,0,[],rfl,Own.nil _ _,Own.nil _ _,Own.nil _ _,(hs.pick [(0,3),(1,4),(2,5)] rfl).dnil⟩
 have hk:=hk.lit 6 c5 rfl
 refine cnd_false hk rfl rfl <| wp_skip <| hK3 _ _ <| sq fun _ hK7=>sr fun _ hK8=>mv hk rfl fun a hk=>sle rfl hk rfl rfl rfl un22 fun a hk=>sv (.bool ((l0.length:Int) != 12)) hk rfl rfl rfl fun a hk=>nx hK8 ?_
 rcases cond_some H with ⟨c9,H⟩ | ⟨c9,H⟩
 ·have hk:=hk.lit 10 c9 rfl
  refine cnd_true hk rfl rfl <| sr fun _ hK10=>sbd (pv:=[]) rfl hk rfl rfl rfl bd45_1 fun a hk=>ssw 2 hs rfl rfl hk rfl rfl rfl rfl sz45 (by simp [Value.oneCell']) rfl fun w a hk hs=>mv hk rfl fun a hk=>nx hK10 <| wp_ret ?_
  obtain rfl:=osi H
  have hs:=hs.addNil 6
  have hs:=hs.addNil 7
  have hs:=hs.addNil 8
  exact fin hk _ [(.agg #[vL none 0 0,vL none 0 0,vL none 0 0]),(vI iS 8)] rfl ⟨⟨_,rfl,run_loadN ag45 sz45 (box_cells hs (k:=2) rfl)⟩,⟨rfl,trivial⟩⟩ ⟨none,0,[],none,0,[],none,0,[],rfl,Own.nil _ _,Own.nil _ _,Own.nil _ _,(hs.pick [(0,6),(1,7),(2,8)] rfl).dnil⟩
 have hk:=hk.lit 10 c9 rfl
 refine cnd_false hk rfl rfl <| wp_skip <| hK7 _ _ <| sq fun _ hK11=>sr fun _ hK12=>mv hk rfl fun a hk=>?_
 obtain ⟨y13,h14,H⟩:=bind_some H
 refine sc rfl en12 hk rfl rfl rfl (spec_l08Leaves_t _ A0_ p0_ l0 _ v0_ (hs.hasD (k:=1) rfl) _ h14) ?_
 rintro _ w ⟨rfl,hG⟩ a hk
 have hs:=hs.call0 hG
 refine sv (.bool (!y13)) hk rfl rfl rfl fun a hk=>nx hK12 ?_
 rcases cond_some H with ⟨c15,H⟩ | ⟨c15,H⟩
 ·have hk:=hk.lit 14 c15 rfl
  refine cnd_true hk rfl rfl <| sr fun _ hK16=>sbd (pv:=[]) rfl hk rfl rfl rfl bd45_1 fun a hk=>ssw 2 hs rfl rfl hk rfl rfl rfl rfl sz45 (by simp [Value.oneCell']) rfl fun w a hk hs=>mv hk rfl fun a hk=>nx hK16 <| wp_ret ?_
  obtain rfl:=osi H
  have hs:=hs.addNil 9
  have hs:=hs.addNil 10
  have hs:=hs.addNil 11
  exact fin hk _ [(.agg #[vL none 0 0,vL none 0 0,vL none 0 0]),(vI iS 4)] rfl ⟨⟨_,rfl,run_loadN ag45 sz45 (box_cells hs (k:=2) rfl)⟩,⟨rfl,trivial⟩⟩ ⟨none,0,[],none,0,[],none,0,[],rfl,Own.nil _ _,Own.nil _ _,Own.nil _ _,(hs.pick [(0,9),(1,10),(2,11)] rfl).dnil⟩
 have hk:=hk.lit 14 c15 rfl
 refine cnd_false hk rfl rfl <| wp_skip <| hK11 _ _ <| sr fun _ hK17=>mv hk rfl fun a hk=>?_
 obtain ⟨y18,h19,H⟩:=bind_some H
 refine sc rfl en71 hk rfl rfl rfl (spec_l08New_t _ A0_ p0_ l0 _ v0_ (hs.hasD (k:=1) rfl) _ h19) ?_
 rintro _ w ⟨A20,p21,k22,A24,p25,k26,A28,p29,k30,rfl,o23,o27,o31,hG⟩ a hk
 have hs:=hs.call0k hG [12,13,14] rfl
 refine ssw 2 hs rfl rfl hk rfl rfl rfl rfl sz45 (by simp [Value.oneCell']) rfl fun w a hk hs=>mv hk rfl fun a hk=>nx hK17 ?_
 have hs:=hs.pick [(2,2),(12,12),(13,13),(14,14)] rfl
 refine wp_ret ?_
 obtain rfl:=osi H
 exact fin hk _ [(.agg #[vL A20 y18.Pos.length p21,vL A24 y18.Stash.length p25,vL A28 y18.Buckets.length p29]),(vI iS 0)] rfl ⟨⟨_,rfl,run_loadN ag45 sz45 (box_cells hs (k:=2) rfl)⟩,⟨rfl,trivial⟩⟩ ⟨A20,p21,_,A24,p25,_,A28,p29,_,rfl,o23,o27,o31,(hs.pick [(0,12),(1,13),(2,14)] rfl).dnil⟩
noncomputable def spec_NewEnc.f (l0:List Int):Option (S_Enc×Int) :=
  (bif (decide ((l0.length:Int)>4096)) then (some ((⟨([]:List Int),(⟨([]:List Int),([]:List S_Block),([]:List (List S_Block))⟩:S_Oram)⟩:S_Enc),2)) else ((spec_NewOram.f l0).bind fun y8=>(bif (y8.2 != 0) then (some ((⟨([]:List Int),(⟨([]:List Int),([]:List S_Block),([]:List (List S_Block))⟩:S_Oram)⟩:S_Enc),y8.2)) else (if 0≤(11:Int)∧(11:Int)≤1073741824 then (some ((⟨(List.replicate ((11:Int)).toNat (0:Int)),y8.1⟩:S_Enc),0)) else none))))
theorem spec_NewEnc_t (w0:World) (A0_:Option Addr) (p0_:Nat) (l0:List Int) (k0_:Chunk) (v0_:View (Lay.int iS) A0_ p0_ l0 k0_) (w0_:Has w0 k0_) (r:S_Enc×Int) (H:spec_NewEnc.f l0=some r) :
    Calls Tryz.prog 25 #[vL A0_ l0.length p0_] w0 (Ret (fun v w=>∃ (A0:Option Addr) (p0:Nat) (k0:Chunk),∃ (A1:Option Addr) (p1:Nat) (k1:Chunk),∃ (A2:Option Addr) (p2:Nat) (k2:Chunk),∃ (A3:Option Addr) (p3:Nat) (k3:Chunk),v = .tuple #[.agg #[vL A0 r.1.Keys.length p0,vL A1 r.1.Oram.Pos.length p1,vL A2 r.1.Oram.Stash.length p2,vL A3 r.1.Oram.Buckets.length p3],vI iS r.2]∧Own (Lay.int iS) 3 A0 p0 r.1.Keys k0∧Own (Lay.int iS) 3 A1 p1 r.1.Oram.Pos k1∧Own L_Block 100 A2 p2 r.1.Oram.Stash k2∧Own (Lay.sl L_Block 100) 42 A3 p3 r.1.Oram.Buckets k3∧Sat [] w0 w [] [(0,k0),(1,k1),(2,k2),(3,k3)])):=by
 have hs:=sat0 w0 [(1,k0_)] (by simp only [List.mem_cons,List.not_mem_nil,or_false];rintro x (rfl) <;> assumption)
 unfold spec_NewEnc.f at H
 refine enter Tryz.func25 rfl Tryz.ntmps25 rfl fun a hk=>sr fun _ hK1=>salx 2 hs rfl hk rfl rfl ze47 rfl fun b2 w a hk hs=>mv hk rfl fun a hk=>nx hK1 <| sq fun _ hK3=>sr fun _ hK4=>mv hk rfl fun a hk=>sle rfl hk rfl rfl rfl un22 fun a hk=>sv (.bool (decide ((l0.length:Int)>4096))) hk rfl rfl rfl fun a hk=>nx hK4 ?_
 rcases cond_some H with ⟨c5,H⟩ | ⟨c5,H⟩
 ·have hk:=hk.lit 8 c5 rfl
  refine cnd_true hk rfl rfl <| sr fun _ hK6=>sbd (pv:=[]) rfl hk rfl rfl rfl bd47_2 fun a hk=>ssw 2 hs rfl rfl hk rfl rfl rfl rfl sz47 (by simp [Value.oneCell']) rfl fun w a hk hs=>mv hk rfl fun a hk=>nx hK6 <| wp_ret ?_
  obtain rfl:=osi H
  have hs:=hs.addNil 3
  have hs:=hs.addNil 4
  have hs:=hs.addNil 5
  have hs:=hs.addNil 6
  exact fin hk _ [(.agg #[vL none 0 0,vL none 0 0,vL none 0 0,vL none 0 0]),(vI iS 2)] rfl ⟨⟨_,rfl,run_loadN ag47 sz47 (box_cells hs (k:=2) rfl)⟩,⟨rfl,trivial⟩⟩ ⟨none,0,[],none,0,[],none,0,[],none,0,[],rfl,Own.nil _ _,Own.nil _ _,Own.nil _ _,Own.nil _ _,(hs.pick [(0,3),(1,4),(2,5),(3,6)] rfl).dnil⟩
 have hk:=hk.lit 8 c5 rfl
 refine cnd_false hk rfl rfl <| wp_skip <| hK3 _ _ <| sr fun _ hK7=>mv hk rfl fun a hk=>?_
 obtain ⟨y8,h9,H⟩:=bind_some H
 refine sc rfl en46 hk rfl rfl rfl (spec_NewOram_t _ A0_ p0_ l0 _ v0_ (hs.hasD (k:=1) rfl) _ h9) ?_
 rintro _ w ⟨A10,p11,k12,A14,p15,k16,A18,p19,k20,rfl,o13,o17,o21,hG⟩ a hk
 have hs:=hs.call0k hG [7,8,9] rfl
 refine mv hk rfl fun a hk=>sv (.agg #[vL A10 y8.1.Pos.length p11,vL A14 y8.1.Stash.length p15,vL A18 y8.1.Buckets.length p19]) hk rfl rfl rfl fun a hk=>sv (vI iS y8.2) hk rfl rfl rfl fun a hk=>salx 10 hs rfl hk rfl rfl ze45 rfl fun b22 w a hk hs=>ssw 10 hs rfl rfl hk rfl rfl rfl rfl sz45 (by simp [Value.oneCell']) rfl fun w a hk hs=>mv hk rfl fun a hk=>nx hK7 <| sq fun _ hK23=>sr fun _ hK24=>mv hk rfl fun a hk=>sv (.bool (y8.2 != 0)) hk rfl rfl rfl fun a hk=>nx hK24 ?_
 rcases cond_some H with ⟨c25,H⟩ | ⟨c25,H⟩
 ·have hk:=hk.lit 16 c25 rfl
  refine cnd_true hk rfl rfl <| sr fun _ hK26=>sbd (pv:=[]) rfl hk rfl rfl rfl bd47_2 fun a hk=>mv hk rfl fun a hk=>ssw 2 hs rfl rfl hk rfl rfl rfl rfl sz47 (by simp [Value.oneCell']) rfl fun w a hk hs=>mv hk rfl fun a hk=>nx hK26 <| wp_ret ?_
  obtain rfl:=osi H
  have hs:=hs.addNil 11
  have hs:=hs.addNil 12
  have hs:=hs.addNil 13
  have hs:=hs.addNil 14
  exact fin hk _ [(.agg #[vL none 0 0,vL none 0 0,vL none 0 0,vL none 0 0]),(vI iS y8.2)] rfl ⟨⟨_,rfl,run_loadN ag47 sz47 (box_cells hs (k:=2) rfl)⟩,⟨rfl,trivial⟩⟩ ⟨none,0,[],none,0,[],none,0,[],none,0,[],rfl,Own.nil _ _,Own.nil _ _,Own.nil _ _,Own.nil _ _,(hs.pick [(0,11),(1,12),(2,13),(3,14)] rfl).dnil⟩
 have hk:=hk.lit 16 c25 rfl
 refine cnd_false hk rfl rfl <| wp_skip <| hK23 _ _ <| sq fun _ hK27=>wp_region_tree (.q 1 (.alt 0 (.alt 2 (.alt 3 (.last 4) .stop) .stop) .stop)) mo (by kernel_rfl) (hs.pick [(10,10),(9,9),(8,8),(7,7)] rfl) fun _=>?_
 have hs:=hs.drew
 refine tqst _ hk rfl rfl rfl rfl (fun w hs=>sln [vL A10 y8.1.Pos.length p11,vL A14 y8.1.Stash.length p15,vL A18 y8.1.Buckets.length p19] rfl hk rfl rfl rfl ag45 sz45 (box_cells hs (k:=10) rfl) fun a hk=>qe hk) fun a hk=>tss hs hk rfl rfl fun _ hK_r28_0 w hs=>?_
 obtain ⟨c29,H⟩:=ite_no H
 refine smk 16 (Lay.int iS) hs rfl hk rfl rfl rfl rfl un22 mk3 lz3 rfl rfl c29.1 c29.2 fun b30 k31 w a hk o32 hs=>?_
 have lh33:(List.replicate ((11:Int)).toNat (0:Int)).length=((11:Int)).toNat:=List.length_replicate
 refine se (hs.pick [(10,10),(9,9),(8,8),(7,7)] rfl) hk (hK_r28_0 _ _ ?_)
 refine tss hs hk rfl rfl fun _ hK_r28_2 w hs=>sbd (pv:=[(0,(vL (some ⟨b30,0,none⟩) (((11:Int)).toNat) (((11:Int)).toNat))),(1,(.agg #[vL A10 y8.1.Pos.length p11,vL A14 y8.1.Stash.length p15,vL A18 y8.1.Buckets.length p19]))]) rfl hk rfl rfl rfl (bd47_3 (some ⟨b30,0,none⟩) (((11:Int)).toNat) (((11:Int)).toNat) A10 y8.1.Pos.length p11 A14 y8.1.Stash.length p15 A18 y8.1.Buckets.length p19) fun a hk=>se (hs.pick [(10,10),(9,9),(8,8),(7,7)] rfl) hk (hK_r28_2 _ _ ?_)
 refine tss hs hk rfl rfl fun _ hK_r28_3 w hs=>ssw 2 hs rfl rfl hk rfl rfl rfl rfl sz47 (by simp [Value.oneCell']) rfl fun w a hk hs=>se (hs.pick [(10,10),(9,9),(8,8),(7,7)] rfl) hk (hK_r28_3 _ _ ?_)
 refine tlst hk rfl rfl fun K_r28_4 hK_r28_4 w hF=>?_
 have hs:=hs.f hF
 refine mv hk rfl fun a hk=>se trivial hk (hK_r28_4 _ _ fun w hF=>?_)
 have hs:=hs.f hF
 refine hK27 _ _ <| wp_ret ?_
 obtain rfl:=osi H
 exact fin hk _ [(.agg #[vL (some ⟨b30,0,none⟩) (((11:Int)).toNat) (((11:Int)).toNat),vL A10 y8.1.Pos.length p11,vL A14 y8.1.Stash.length p15,vL A18 y8.1.Buckets.length p19]),(vI iS 0)] rfl ⟨⟨_,rfl,run_loadN ag47 sz47 (box_cells hs (k:=2) rfl)⟩,⟨rfl,trivial⟩⟩ ⟨(some ⟨b30,0,none⟩),(((11:Int)).toNat),_,A10,p11,_,A14,p15,_,A18,p19,_,(by first | (rw [lh33];done) | (rw [lh33];rfl)),o32,o13,o17,o21,(hs.pick [(0,16),(1,7),(2,8),(3,9)] rfl).dnil⟩
noncomputable def spec_l04Eight.s0 (x0:Int) (u15:List Int) (u14:Int):Option (((List Int)×Int) ⊕ Ex ((List Int)) (ByteArray)) :=
  (bif (decide (u14<8)) then (if 0≤(w64 (8*u14)) then (if u15.length+([(wR iB (Int.fdiv x0 (2 ^ min (w64 (8*u14)).toNat 64)))]).length≤1073741824 then (some (.inl ((u15++([(wR iB (Int.fdiv x0 (2 ^ min (w64 (8*u14)).toNat 64)))])),(w64 (u14+1))))) else none) else none) else (some (.inr (.out u15))))
noncomputable def spec_l04Eight.f (x0:Int):Option (ByteArray) :=
  ((loopO (fun s=>spec_l04Eight.s0 x0 s.1 s.2) (([]:List Int),0)).bind fun o=>match o with | .out u20=>(some (strOfNums u20)) | .ret r=>(some r))
theorem spec_l04Eight_t (w0:World) (x0:Int) (r:ByteArray) (H:spec_l04Eight.f x0=some r) :
    Calls Tryz.prog 89 #[vI iS x0] w0 (Ret (fun v w=>v=vS r∧Sat [] w0 w [] [])):=by
 have hs:=sat0 w0 [] (by simp)
 unfold spec_l04Eight.f at H
 refine enter Tryz.func89 rfl Tryz.ntmps89 rfl fun a hk=>sr fun _ hK1=>mv hk rfl fun a hk=>nx hK1 <| sr fun _ hK2=>sbs0 1 (Lay.int iB) hs rfl hk rfl rfl un101 sz5 fun b3 k4 w a hk o5 hs=>mv hk rfl fun a hk=>nx hK2 <| sq fun _ hK6=>sr fun _ hK7=>mv hk rfl fun a hk=>nx hK7 ?_
 obtain ⟨o25,h26,HL27⟩:=bind_some H
 clear H
 obtain ⟨R28,hR28⟩:=nm fun a w=>∃ (u20:List Int) (A23:Option Addr) (p24:Nat) (k21:Chunk),o25 = .out u20∧Kn [(3,(vL A23 u20.length p24))] 20 a∧Sat [] w0 w [] [(1,k21)]∧Own (Lay.int iB) 5 A23 p24 u20 k21
 refine wp_cutq R28 ?_ ?_
 ·refine wp_block ?_
  obtain ⟨fu30,h26⟩:=loopO_some h26
  obtain ⟨I29,hI29⟩:=nm fun fu a w=>∃ (u15:List Int) (u14:Int) (A18:Option Addr) (p19:Nat) (k16:Chunk),loopN (fun s=>spec_l04Eight.s0 x0 s.1 s.2) fu (u15,u14)=some o25∧Kn [(0,(vI iS x0)),(3,(vL A18 u15.length p19)),(4,(vI iS u14))] 20 a∧Sat [] w0 w [] [(1,k16)]∧Own (Lay.int iB) 5 A18 p19 u15 k16
  refine wp_loop_ghost I29 fu30 ?_ ?_
  ·rw [hI29]
   exact ⟨_,_,(some ⟨b3,0,none⟩),0,_,h26,(hk.al rfl),(hs.pick [(1,1)] rfl),o5⟩
  clear h26 hk hs
  intro fu30 a w hI0
  rw [hI29] at hI0
  obtain ⟨u15,u14,A18,p19,k16,hi,hk,hs,o17⟩:=hI0
  obtain ⟨x31,H,h32⟩:=loop_round hi
  try dsimp only at H
  unfold spec_l04Eight.s0 at H
  refine sq fun _ hK33=>sr fun _ hK34=>mv hk rfl fun a hk=>sv (.bool (decide (u14<8))) hk rfl rfl rfl fun a hk=>nx hK34 ?_
  rcases cond_some H with ⟨c35,H⟩ | ⟨c35,H⟩
  ·have hk:=hk.lit 7 c35 rfl
   refine cnd_true hk rfl rfl <| wp_skip <| hK33 _ _ <| sq fun _ hK36=>wp_block ?_
   apply wp_region_lit
   refine mv hk rfl fun a hk=>mv hk rfl fun a hk=>mv hk rfl fun a hk=>sv (vI iS (w64 (8*u14))) hk rfl rfl rfl fun a hk=>?_
   obtain ⟨c37,H⟩:=ite_no H
   refine ssr rfl hk rfl rfl rfl rfl c37 fun a hk=>scn rfl hk rfl rfl rfl un5 un3 fun a hk=>sbs (L:=(Lay.int iB)) (pv:=[(0,(vI iB (wR iB (Int.fdiv x0 (2 ^ min (w64 (8*u14)).toNat 64)))))]) (xs:=[(wR iB (Int.fdiv x0 (2 ^ min (w64 (8*u14)).toNat 64)))]) (ess:=[[vI iB (wR iB (Int.fdiv x0 (2 ^ min (w64 (8*u14)).toNat 64)))]]) 3 hs rfl hk rfl rfl rfl un101 (bs5_4 (wR iB (Int.fdiv x0 (2 ^ min (w64 (8*u14)).toNat 64)))) (AllOwn.cons0 ⟨rfl,rfl⟩ AllOwn.nil) rfl rfl rfl fun b38 k39 w a hk o40 hs=>?_
   obtain ⟨c41,H⟩:=ite_no H
   refine sap 1 (xs:=u15) (ys:=[(wR iB (Int.fdiv x0 (2 ^ min (w64 (8*u14)).toNat 64)))]) (flat_flat:((Lay.int iB)).Flat) hs rfl o17 o40.view (hs.hasG (k:=3) rfl) rfl hk rfl rfl rfl rfl rfl rfl un101 mk5 rfl rfl rfl c41 fun A42 p43 k44 w a hk o45 hs=>mv hk rfl fun a hk=>nx hK36 ?_
   apply wp_region_lit
   refine mv hk rfl fun a hk=>sv (vI iS (w64 (u14+1))) hk rfl rfl rfl fun a hk=>mv hk rfl fun a hk=>?_
   show wpList _ _ _ [] _ _
   refine wpList_nil ?_
   obtain rfl:=osi H
   obtain ⟨m46,hmm46,h32⟩:=h32
   show ∃ n',n'<_∧I29 n' _ _
   refine ⟨m46,hmm46,?_⟩
   rw [hI29]
   exact ⟨_,_,A42,p43,_,h32,(hk.al rfl),(hs.pick [(1,1)] rfl),o45⟩
  have hk:=hk.lit 7 c35 rfl
  refine cnd_false hk rfl rfl <| wp_exit ?_
  obtain rfl:=osi H
  show R28 _ _
  rw [hR28]
  exact ⟨_,A18,p19,_,h32.symm,(hk.al rfl),(hs.pick [(1,1)] rfl),o17⟩
 intro a w hR0
 rw [hR28] at hR0
 obtain ⟨u20,A23,p24,k21,rfl,hk,hs,o22⟩:=hR0
 have H:=HL27
 try dsimp only at H
 refine hK6 _ _ <| sr fun _ hK47=>mv hk rfl fun a hk=>sbt (xs:=u20) rfl hk rfl rfl rfl rfl un101 un5 un9 o22.view (hs.hasG (k:=1) rfl) fun a hk=>mv hk rfl fun a hk=>nx hK47 <| wp_ret ?_
 obtain rfl:=osi H
 exact fin hk _ [(vS (strOfNums u20))] rfl ⟨rfl,trivial⟩ ⟨rfl,(hs.pick [] rfl).dnil⟩
noncomputable def spec_l06Nonce.f (x0:Int) (x1:Int) (x2:Int):Option (ByteArray) :=
  ((spec_l04Eight.f x2).bind fun y4=>(if (strOfNums ([(wR iB x0),(wR iB x1),(wR iB (Int.fdiv x1 (2 ^ 8))),0])).size+y4.size≤1152921504606846976 then (some ((strOfNums ([(wR iB x0),(wR iB x1),(wR iB (Int.fdiv x1 (2 ^ 8))),0]))++y4)) else none))
theorem spec_l06Nonce_t (w0:World) (x0:Int) (x1:Int) (x2:Int) (r:ByteArray) (H:spec_l06Nonce.f x0 x1 x2=some r) :
    Calls Tryz.prog 72 #[vI iS x0,vI iS x1,vI iS x2] w0 (Ret (fun v w=>v=vS r∧Sat [] w0 w [] [])):=by
 have hs:=sat0 w0 [] (by simp)
 unfold spec_l06Nonce.f at H
 refine enter Tryz.func72 rfl Tryz.ntmps72 rfl fun a hk=>sr fun _ hK1=>mv hk rfl fun a hk=>nx hK1 <| sq fun _ hK2=>wp_region_tree (.q 0 (.q 1 (.q 2 (.q 3 (.q 4 (.q 5 (.q 6 (.q 9 (.q 10 (.alt 7 (.alt 8 (.alt 11 (.last 12) .stop) .stop) .stop)))))))))) mo (by kernel_rfl) (hs.pick [] rfl) fun _=>?_
 have hs:=hs.drew
 refine tqm hk rfl fun a hk=>tqst _ hk rfl rfl rfl rfl (fun w hs=>scn rfl hk rfl rfl rfl un5 un3 fun a hk=>qe hk) fun a hk=>tqm hk rfl fun a hk=>tqst _ hk rfl rfl rfl rfl (fun w hs=>scn rfl hk rfl rfl rfl un5 un3 fun a hk=>qe hk) fun a hk=>tqm hk rfl fun a hk=>tqv (vI iS (Int.fdiv x1 (2 ^ 8))) hk rfl rfl (fun _=>rfl) fun a hk=>tqst _ hk rfl rfl rfl rfl (fun w hs=>scn rfl hk rfl rfl rfl un5 un3 fun a hk=>qe hk) fun a hk=>tqm hk rfl fun a hk=>?_
 obtain ⟨y4,h5,H⟩:=bind_some H
 refine tqst (vS y4) hk rfl rfl rfl rfl (fun w hs=>sc rfl en89 hk rfl rfl rfl (spec_l04Eight_t _ x2 _ h5) fun _ w hR a hk=>qc hR hk) fun a hk=>tss hs hk rfl rfl fun _ hK_r3_7 w hs=>sbs (L:=(Lay.int iB)) (pv:=[(0,(vI iB (wR iB x0))),(1,(vI iB (wR iB x1))),(2,(vI iB (wR iB (Int.fdiv x1 (2 ^ 8))))),(3,(vI iB 0))]) (xs:=[(wR iB x0),(wR iB x1),(wR iB (Int.fdiv x1 (2 ^ 8))),0]) (ess:=[[vI iB (wR iB x0)],[vI iB (wR iB x1)],[vI iB (wR iB (Int.fdiv x1 (2 ^ 8)))],[vI iB 0]]) 2 hs rfl hk rfl rfl rfl un101 (bs5_5 (wR iB x0) (wR iB x1) (wR iB (Int.fdiv x1 (2 ^ 8))) 0) (AllOwn.cons0 ⟨rfl,rfl⟩ (AllOwn.cons0 ⟨rfl,rfl⟩ (AllOwn.cons0 ⟨rfl,rfl⟩ (AllOwn.cons0 ⟨rfl,rfl⟩ AllOwn.nil)))) rfl rfl rfl fun b6 k7 w a hk o8 hs=>se (hs.pick [] rfl) hk (hK_r3_7 _ _ ?_)
 refine tss hs hk rfl rfl fun _ hK_r3_8 w hs=>sbt (xs:=([(wR iB x0),(wR iB x1),(wR iB (Int.fdiv x1 (2 ^ 8))),0])) rfl hk rfl rfl rfl rfl un101 un5 un9 o8.view (hs.hasG (k:=2) rfl) fun a hk=>se (hs.pick [] rfl) hk (hK_r3_8 _ _ ?_)
 refine tss hs hk rfl rfl fun _ hK_r3_11 w hs=>?_
 obtain ⟨c9,H⟩:=ite_no H
 refine ssa rfl hk rfl rfl rfl rfl c9 fun a hk=>se (hs.pick [] rfl) hk (hK_r3_11 _ _ ?_)
 refine tlst hk rfl rfl fun K_r3_12 hK_r3_12 w hF=>?_
 have hs:=hs.f hF
 refine mv hk rfl fun a hk=>se trivial hk (hK_r3_12 _ _ fun w hF=>?_)
 have hs:=hs.f hF
 refine hK2 _ _ <| wp_ret ?_
 obtain rfl:=osi H
 exact fin hk _ [(vS ((strOfNums ([(wR iB x0),(wR iB x1),(wR iB (Int.fdiv x1 (2 ^ 8))),0]))++y4))] rfl ⟨rfl,trivial⟩ ⟨rfl,(hs.pick [] rfl).dnil⟩
noncomputable def spec_l02Bytes.f (l0:List Int) (x1:Int):Option ((List Int)) :=
  (if l0.length+([(wR iB x1),(wR iB (Int.fdiv x1 (2 ^ 8))),(wR iB (Int.fdiv x1 (2 ^ 16))),(wR iB (Int.fdiv x1 (2 ^ 24)))]).length≤1073741824 then (some (l0++([(wR iB x1),(wR iB (Int.fdiv x1 (2 ^ 8))),(wR iB (Int.fdiv x1 (2 ^ 16))),(wR iB (Int.fdiv x1 (2 ^ 24)))]))) else none)
theorem spec_l02Bytes_t (w0:World) (A0_:Option Addr) (p0_:Nat) (l0:List Int) (k0_:Chunk) (v0_:Own (Lay.int iB) 5 A0_ p0_ l0 k0_) (x1:Int) (hs0:Sat (blks [(1,k0_)]) w0 w0 [] [(1,k0_)]) (r:(List Int)) (H:spec_l02Bytes.f l0 x1=some r) :
    Calls Tryz.prog 113 #[vL A0_ l0.length p0_,vI iS x1] w0 (Ret (fun v w=>∃ (A0:Option Addr) (p0:Nat) (k0:Chunk),v=vL A0 r.length p0∧Own (Lay.int iB) 5 A0 p0 r k0∧Sat (blks [(1,k0_)]) w0 w [] [(0,k0)])):=by
 have hs:=hs0
 unfold spec_l02Bytes.f at H
 refine enter Tryz.func113 rfl Tryz.ntmps113 rfl fun a hk=>sr fun _ hK1=>mv hk rfl fun a hk=>nx hK1 <| sr fun _ hK2=>mv hk rfl fun a hk=>mv hk rfl fun a hk=>scn rfl hk rfl rfl rfl un5 un3 fun a hk=>mv hk rfl fun a hk=>sv (vI iS (Int.fdiv x1 (2 ^ 8))) hk rfl rfl rfl fun a hk=>scn rfl hk rfl rfl rfl un5 un3 fun a hk=>mv hk rfl fun a hk=>sv (vI iS (Int.fdiv x1 (2 ^ 16))) hk rfl rfl rfl fun a hk=>scn rfl hk rfl rfl rfl un5 un3 fun a hk=>mv hk rfl fun a hk=>sv (vI iS (Int.fdiv x1 (2 ^ 24))) hk rfl rfl rfl fun a hk=>scn rfl hk rfl rfl rfl un5 un3 fun a hk=>sbs (L:=(Lay.int iB)) (pv:=[(0,(vI iB (wR iB x1))),(1,(vI iB (wR iB (Int.fdiv x1 (2 ^ 8))))),(2,(vI iB (wR iB (Int.fdiv x1 (2 ^ 16))))),(3,(vI iB (wR iB (Int.fdiv x1 (2 ^ 24)))))]) (xs:=[(wR iB x1),(wR iB (Int.fdiv x1 (2 ^ 8))),(wR iB (Int.fdiv x1 (2 ^ 16))),(wR iB (Int.fdiv x1 (2 ^ 24)))]) (ess:=[[vI iB (wR iB x1)],[vI iB (wR iB (Int.fdiv x1 (2 ^ 8)))],[vI iB (wR iB (Int.fdiv x1 (2 ^ 16)))],[vI iB (wR iB (Int.fdiv x1 (2 ^ 24)))]]) 2 hs rfl hk rfl rfl rfl un101 (bs5_5 (wR iB x1) (wR iB (Int.fdiv x1 (2 ^ 8))) (wR iB (Int.fdiv x1 (2 ^ 16))) (wR iB (Int.fdiv x1 (2 ^ 24)))) (AllOwn.cons0 ⟨rfl,rfl⟩ (AllOwn.cons0 ⟨rfl,rfl⟩ (AllOwn.cons0 ⟨rfl,rfl⟩ (AllOwn.cons0 ⟨rfl,rfl⟩ AllOwn.nil)))) rfl rfl rfl fun b3 k4 w a hk o5 hs=>?_
 obtain ⟨c6,H⟩:=ite_no H
 refine sap 1 (xs:=l0) (ys:=[(wR iB x1),(wR iB (Int.fdiv x1 (2 ^ 8))),(wR iB (Int.fdiv x1 (2 ^ 16))),(wR iB (Int.fdiv x1 (2 ^ 24)))]) (flat_flat:((Lay.int iB)).Flat) hs rfl v0_ o5.view (hs.hasG (k:=2) rfl) rfl hk rfl rfl rfl rfl rfl rfl un101 mk5 rfl rfl rfl c6 fun A7 p8 k9 w a hk o10 hs=>mv hk rfl fun a hk=>nx hK2 <| wp_ret ?_
 obtain rfl:=osi H
 exact fin hk _ [(vL A7 (l0++([(wR iB x1),(wR iB (Int.fdiv x1 (2 ^ 8))),(wR iB (Int.fdiv x1 (2 ^ 16))),(wR iB (Int.fdiv x1 (2 ^ 24)))])).length p8)] rfl ⟨rfl,trivial⟩ ⟨A7,p8,_,rfl,o10,(hs.pick [(0,1)] rfl).dnil⟩
noncomputable def spec_l02Word.f (x0:ByteArray) (x1:Int):Option (Int) :=
  (if 0≤x1∧x1<(x0.size:Int) then (if 0≤(w64 (x1+1))∧(w64 (x1+1))<(x0.size:Int) then (if 0≤(w64 (x1+2))∧(w64 (x1+2))<(x0.size:Int) then (if 0≤(w64 (x1+3))∧(w64 (x1+3))<(x0.size:Int) then (some (wR iS ((bO 64 (wR iS ((bO 64 (wR iS ((bO 64 (wR iS (byteAt x0 x1)) ||| bO 64 (wR iS ((wR iS (byteAt x0 (w64 (x1+1))))*2 ^ 8))).toNat:Int)) ||| bO 64 (wR iS ((wR iS (byteAt x0 (w64 (x1+2))))*2 ^ 16))).toNat:Int)) ||| bO 64 (wR iS ((wR iS (byteAt x0 (w64 (x1+3))))*2 ^ 24))).toNat:Int))) else none) else none) else none) else none)
theorem spec_l02Word_t (w0:World) (x0:ByteArray) (x1:Int) (r:Int) (H:spec_l02Word.f x0 x1=some r) :
    Calls Tryz.prog 129 #[vS x0,vI iS x1] w0 (Ret (fun v w=>v=vI iS r∧Sat [] w0 w [] [])):=by
 have hs:=sat0 w0 [] (by simp)
 unfold spec_l02Word.f at H
 refine enter Tryz.func129 rfl Tryz.ntmps129 rfl fun a hk=>sr fun _ hK1=>mv hk rfl fun a hk=>nx hK1 <| sq fun _ hK2=>wp_region_tree (.q 0 (.q 1 (.q 2 (.q 3 (.q 4 (.q 5 (.q 6 (.q 7 (.q 8 (.q 9 (.q 10 (.q 11 (.q 12 (.q 13 (.q 14 (.q 15 (.q 16 (.q 17 (.q 18 (.alt 19 (.alt 20 (.alt 21 (.alt 22 (.alt 23 (.alt 24 (.last 25) .stop) .stop) .stop) .stop) .stop) .stop)))))))))))))))))))) mo (by kernel_rfl) (hs.pick [] rfl) fun _=>?_
 have hs:=hs.drew
 refine tqm hk rfl fun a hk=>tqm hk rfl fun a hk=>?_
 obtain ⟨c4,H⟩:=ite_no H
 refine tqst _ hk rfl rfl rfl rfl (fun w hs=>six rfl hk rfl rfl rfl rfl un9 c4.1 c4.2 fun a hk=>qe hk) fun a hk=>tqst _ hk rfl rfl rfl rfl (fun w hs=>scn rfl hk rfl rfl rfl un3 un5 fun a hk=>qe hk) fun a hk=>tqm hk rfl fun a hk=>tqm hk rfl fun a hk=>tqv (vI iS (w64 (x1+1))) hk rfl rfl (fun _=>rfl) fun a hk=>?_
 obtain ⟨c5,H⟩:=ite_no H
 refine tqst _ hk rfl rfl rfl rfl (fun w hs=>six rfl hk rfl rfl rfl rfl un9 c5.1 c5.2 fun a hk=>qe hk) fun a hk=>tqst _ hk rfl rfl rfl rfl (fun w hs=>scn rfl hk rfl rfl rfl un3 un5 fun a hk=>qe hk) fun a hk=>tqv (vI iS (wR iS ((wR iS (byteAt x0 (w64 (x1+1))))*2 ^ 8))) hk rfl rfl (fun _=>rfl) fun a hk=>tqv (vI iS (bio6 (wR iS (byteAt x0 x1)) (wR iS ((wR iS (byteAt x0 (w64 (x1+1))))*2 ^ 8)))) hk rfl rfl (fun _=>rfl) fun a hk=>tqm hk rfl fun a hk=>tqm hk rfl fun a hk=>tqv (vI iS (w64 (x1+2))) hk rfl rfl (fun _=>rfl) fun a hk=>?_
 obtain ⟨c6,H⟩:=ite_no H
 refine tqst _ hk rfl rfl rfl rfl (fun w hs=>six rfl hk rfl rfl rfl rfl un9 c6.1 c6.2 fun a hk=>qe hk) fun a hk=>tqst _ hk rfl rfl rfl rfl (fun w hs=>scn rfl hk rfl rfl rfl un3 un5 fun a hk=>qe hk) fun a hk=>tqv (vI iS (wR iS ((wR iS (byteAt x0 (w64 (x1+2))))*2 ^ 16))) hk rfl rfl (fun _=>rfl) fun a hk=>tqv (vI iS (bio6 (bio6 (wR iS (byteAt x0 x1)) (wR iS ((wR iS (byteAt x0 (w64 (x1+1))))*2 ^ 8))) (wR iS ((wR iS (byteAt x0 (w64 (x1+2))))*2 ^ 16)))) hk rfl rfl (fun _=>rfl) fun a hk=>tqm hk rfl fun a hk=>tss hs hk rfl rfl fun _ hK_r3_19 w hs=>mv hk rfl fun a hk=>se (hs.pick [] rfl) hk (hK_r3_19 _ _ ?_)
 refine tss hs hk rfl rfl fun _ hK_r3_20 w hs=>sv (vI iS (w64 (x1+3))) hk rfl rfl rfl fun a hk=>se (hs.pick [] rfl) hk (hK_r3_20 _ _ ?_)
 refine tss hs hk rfl rfl fun _ hK_r3_21 w hs=>?_
 obtain ⟨c7,H⟩:=ite_no H
 refine six rfl hk rfl rfl rfl rfl un9 c7.1 c7.2 fun a hk=>se (hs.pick [] rfl) hk (hK_r3_21 _ _ ?_)
 refine tss hs hk rfl rfl fun _ hK_r3_22 w hs=>scn rfl hk rfl rfl rfl un3 un5 fun a hk=>se (hs.pick [] rfl) hk (hK_r3_22 _ _ ?_)
 refine tss hs hk rfl rfl fun _ hK_r3_23 w hs=>sv (vI iS (wR iS ((wR iS (byteAt x0 (w64 (x1+3))))*2 ^ 24))) hk rfl rfl rfl fun a hk=>se (hs.pick [] rfl) hk (hK_r3_23 _ _ ?_)
 refine tss hs hk rfl rfl fun _ hK_r3_24 w hs=>sv (vI iS (bio6 (bio6 (bio6 (wR iS (byteAt x0 x1)) (wR iS ((wR iS (byteAt x0 (w64 (x1+1))))*2 ^ 8))) (wR iS ((wR iS (byteAt x0 (w64 (x1+2))))*2 ^ 16))) (wR iS ((wR iS (byteAt x0 (w64 (x1+3))))*2 ^ 24)))) hk rfl rfl rfl fun a hk=>se (hs.pick [] rfl) hk (hK_r3_24 _ _ ?_)
 refine tlst hk rfl rfl fun K_r3_25 hK_r3_25 w hF=>?_
 have hs:=hs.f hF
 refine mv hk rfl fun a hk=>se trivial hk (hK_r3_25 _ _ fun w hF=>?_)
 have hs:=hs.f hF
 refine hK2 _ _ <| wp_ret ?_
 obtain rfl:=osi H
 exact fin hk _ [(vI iS (bio6 (bio6 (bio6 (wR iS (byteAt x0 x1)) (wR iS ((wR iS (byteAt x0 (w64 (x1+1))))*2 ^ 8))) (wR iS ((wR iS (byteAt x0 (w64 (x1+2))))*2 ^ 16))) (wR iS ((wR iS (byteAt x0 (w64 (x1+3))))*2 ^ 24))))] rfl ⟨rfl,trivial⟩ ⟨rfl,(hs.pick [] rfl).dnil⟩
noncomputable def spec_l02Left.f (x0:Int) (x1:Int):Option (Int) :=
  (if 0≤x1 then (if 0≤(w64 (32-x1)) then (some (wR iS ((bO 64 (wR iS ((bO 64 (wR iS (x0*2 ^ min x1.toNat 64)) ||| bO 64 (Int.fdiv x0 (2 ^ min (w64 (32-x1)).toNat 64))).toNat:Int)) &&& bO 64 4294967295).toNat:Int))) else none) else none)
theorem spec_l02Left_t (w0:World) (x0:Int) (x1:Int) (r:Int) (H:spec_l02Left.f x0 x1=some r) :
    Calls Tryz.prog 140 #[vI iS x0,vI iS x1] w0 (Ret (fun v w=>v=vI iS r∧Sat [] w0 w [] [])):=by
 have hs:=sat0 w0 [] (by simp)
 unfold spec_l02Left.f at H
 refine enter Tryz.func140 rfl Tryz.ntmps140 rfl fun a hk=>sr fun _ hK1=>mv hk rfl fun a hk=>nx hK1 <| sq fun _ hK2=>wp_region_tree (.q 0 (.q 1 (.q 2 (.q 3 (.alt 4 (.alt 5 (.alt 6 (.alt 7 (.alt 8 (.last 9) .stop) .stop) .stop) .stop) .stop))))) mo (by kernel_rfl) (hs.pick [] rfl) fun _=>?_
 have hs:=hs.drew
 refine tqm hk rfl fun a hk=>tqm hk rfl fun a hk=>?_
 obtain ⟨c4,H⟩:=ite_no H
 refine tqst _ hk rfl rfl rfl rfl (fun w hs=>ssh rfl hk rfl rfl rfl rfl c4 fun a hk=>qe hk) fun a hk=>tqm hk rfl fun a hk=>tss hs hk rfl rfl fun _ hK_r3_4 w hs=>mv hk rfl fun a hk=>se (hs.pick [] rfl) hk (hK_r3_4 _ _ ?_)
 refine tss hs hk rfl rfl fun _ hK_r3_5 w hs=>sv (vI iS (w64 (32-x1))) hk rfl rfl rfl fun a hk=>se (hs.pick [] rfl) hk (hK_r3_5 _ _ ?_)
 refine tss hs hk rfl rfl fun _ hK_r3_6 w hs=>?_
 obtain ⟨c5,H⟩:=ite_no H
 refine ssr rfl hk rfl rfl rfl rfl c5 fun a hk=>se (hs.pick [] rfl) hk (hK_r3_6 _ _ ?_)
 refine tss hs hk rfl rfl fun _ hK_r3_7 w hs=>sv (vI iS (bio6 (wR iS (x0*2 ^ min x1.toNat 64)) (Int.fdiv x0 (2 ^ min (w64 (32-x1)).toNat 64)))) hk rfl rfl rfl fun a hk=>se (hs.pick [] rfl) hk (hK_r3_7 _ _ ?_)
 refine tss hs hk rfl rfl fun _ hK_r3_8 w hs=>sv (vI iS (bia6 (bio6 (wR iS (x0*2 ^ min x1.toNat 64)) (Int.fdiv x0 (2 ^ min (w64 (32-x1)).toNat 64))) 4294967295)) hk rfl rfl rfl fun a hk=>se (hs.pick [] rfl) hk (hK_r3_8 _ _ ?_)
 refine tlst hk rfl rfl fun K_r3_9 hK_r3_9 w hF=>?_
 have hs:=hs.f hF
 refine mv hk rfl fun a hk=>se trivial hk (hK_r3_9 _ _ fun w hF=>?_)
 have hs:=hs.f hF
 refine hK2 _ _ <| wp_ret ?_
 obtain rfl:=osi H
 exact fin hk _ [(vI iS (bia6 (bio6 (wR iS (x0*2 ^ min x1.toNat 64)) (Int.fdiv x0 (2 ^ min (w64 (32-x1)).toNat 64))) 4294967295))] rfl ⟨rfl,trivial⟩ ⟨rfl,(hs.pick [] rfl).dnil⟩
noncomputable def spec_l02Quarter.f (x0:Int) (x1:Int) (x2:Int) (x3:Int):Option ((List Int)) :=
  ((spec_l02Left.f (wR iS ((bO 64 x3 ^^^ bO 64 (wR iS ((bO 64 (w64 (x0+x1)) &&& bO 64 4294967295).toNat:Int))).toNat:Int)) 16).bind fun y8=>((spec_l02Left.f (wR iS ((bO 64 x1 ^^^ bO 64 (wR iS ((bO 64 (w64 (x2+y8)) &&& bO 64 4294967295).toNat:Int))).toNat:Int)) 12).bind fun y12=>((spec_l02Left.f (wR iS ((bO 64 y8 ^^^ bO 64 (wR iS ((bO 64 (w64 ((wR iS ((bO 64 (w64 (x0+x1)) &&& bO 64 4294967295).toNat:Int))+y12)) &&& bO 64 4294967295).toNat:Int))).toNat:Int)) 8).bind fun y16=>((spec_l02Left.f (wR iS ((bO 64 y12 ^^^ bO 64 (wR iS ((bO 64 (w64 ((wR iS ((bO 64 (w64 (x2+y8)) &&& bO 64 4294967295).toNat:Int))+y16)) &&& bO 64 4294967295).toNat:Int))).toNat:Int)) 7).bind fun y20=>(some ([(wR iS ((bO 64 (w64 ((wR iS ((bO 64 (w64 (x0+x1)) &&& bO 64 4294967295).toNat:Int))+y12)) &&& bO 64 4294967295).toNat:Int)),y20,(wR iS ((bO 64 (w64 ((wR iS ((bO 64 (w64 (x2+y8)) &&& bO 64 4294967295).toNat:Int))+y16)) &&& bO 64 4294967295).toNat:Int)),y16]:List Int))))))
theorem spec_l02Quarter_t (w0:World) (x0:Int) (x1:Int) (x2:Int) (x3:Int) (r:(List Int)) (H:spec_l02Quarter.f x0 x1 x2 x3=some r) :
    Calls Tryz.prog 139 #[vI iS x0,vI iS x1,vI iS x2,vI iS x3] w0 (Ret (fun v w=>v=aggI .i64 r∧r.length=4∧Sat [] w0 w [] [])):=by
 have hs:=sat0 w0 [] (by simp)
 unfold spec_l02Quarter.f at H
 refine enter Tryz.func139 rfl Tryz.ntmps139 rfl fun a hk=>sr fun _ hK1=>sala 1 ((Lay.int iS)) (m:=4) (z:=0) (zc:=[vI iS 0]) hs rfl hk rfl rfl ze165 (by exact ⟨rfl,rfl⟩) rfl rfl rfl fun b2 k3 w a hk o4 hs=>?_
 have lh5:(List.replicate 4 (0:Int)).length=4:=List.length_replicate
 refine nx hK1 <| sr fun _ hK6=>mv hk rfl fun a hk=>mv hk rfl fun a hk=>sv (vI iS (w64 (x0+x1))) hk rfl rfl rfl fun a hk=>sv (vI iS (bia6 (w64 (x0+x1)) 4294967295)) hk rfl rfl rfl fun a hk=>mv hk rfl fun a hk=>nx hK6 <| sr fun _ hK7=>mv hk rfl fun a hk=>mv hk rfl fun a hk=>sv (vI iS (bix6 x3 (bia6 (w64 (x0+x1)) 4294967295))) hk rfl rfl rfl fun a hk=>?_
 obtain ⟨y8,h9,H⟩:=bind_some H
 refine sc rfl en140 hk rfl rfl rfl (spec_l02Left_t _ (bix6 x3 (bia6 (w64 (x0+x1)) 4294967295)) 16 _ h9) ?_
 rintro _ w ⟨rfl,hG⟩ a hk
 have hs:=hs.call0 hG
 refine mv hk rfl fun a hk=>nx hK7 <| sr fun _ hK10=>mv hk rfl fun a hk=>mv hk rfl fun a hk=>sv (vI iS (w64 (x2+y8))) hk rfl rfl rfl fun a hk=>sv (vI iS (bia6 (w64 (x2+y8)) 4294967295)) hk rfl rfl rfl fun a hk=>mv hk rfl fun a hk=>nx hK10 <| sr fun _ hK11=>mv hk rfl fun a hk=>mv hk rfl fun a hk=>sv (vI iS (bix6 x1 (bia6 (w64 (x2+y8)) 4294967295))) hk rfl rfl rfl fun a hk=>?_
 obtain ⟨y12,h13,H⟩:=bind_some H
 refine sc rfl en140 hk rfl rfl rfl (spec_l02Left_t _ (bix6 x1 (bia6 (w64 (x2+y8)) 4294967295)) 12 _ h13) ?_
 rintro _ w ⟨rfl,hG⟩ a hk
 have hs:=hs.call0 hG
 refine mv hk rfl fun a hk=>nx hK11 <| sr fun _ hK14=>mv hk rfl fun a hk=>mv hk rfl fun a hk=>sv (vI iS (w64 ((bia6 (w64 (x0+x1)) 4294967295)+y12))) hk rfl rfl rfl fun a hk=>sv (vI iS (bia6 (w64 ((bia6 (w64 (x0+x1)) 4294967295)+y12)) 4294967295)) hk rfl rfl rfl fun a hk=>mv hk rfl fun a hk=>nx hK14 <| sr fun _ hK15=>mv hk rfl fun a hk=>mv hk rfl fun a hk=>sv (vI iS (bix6 y8 (bia6 (w64 ((bia6 (w64 (x0+x1)) 4294967295)+y12)) 4294967295))) hk rfl rfl rfl fun a hk=>?_
 obtain ⟨y16,h17,H⟩:=bind_some H
 refine sc rfl en140 hk rfl rfl rfl (spec_l02Left_t _ (bix6 y8 (bia6 (w64 ((bia6 (w64 (x0+x1)) 4294967295)+y12)) 4294967295)) 8 _ h17) ?_
 rintro _ w ⟨rfl,hG⟩ a hk
 have hs:=hs.call0 hG
 refine mv hk rfl fun a hk=>nx hK15 <| sr fun _ hK18=>mv hk rfl fun a hk=>mv hk rfl fun a hk=>sv (vI iS (w64 ((bia6 (w64 (x2+y8)) 4294967295)+y16))) hk rfl rfl rfl fun a hk=>sv (vI iS (bia6 (w64 ((bia6 (w64 (x2+y8)) 4294967295)+y16)) 4294967295)) hk rfl rfl rfl fun a hk=>mv hk rfl fun a hk=>nx hK18 ?_
 have hs:=hs.pick [(1,1)] rfl
 refine sr fun _ hK19=>mv hk rfl fun a hk=>mv hk rfl fun a hk=>sv (vI iS (bix6 y12 (bia6 (w64 ((bia6 (w64 (x2+y8)) 4294967295)+y16)) 4294967295))) hk rfl rfl rfl fun a hk=>?_
 obtain ⟨y20,h21,H⟩:=bind_some H
 refine sc rfl en140 hk rfl rfl rfl (spec_l02Left_t _ (bix6 y12 (bia6 (w64 ((bia6 (w64 (x2+y8)) 4294967295)+y16)) 4294967295)) 7 _ h21) ?_
 rintro _ w ⟨rfl,hG⟩ a hk
 have hs:=hs.call0 hG
 refine mv hk rfl fun a hk=>nx hK19 <| sr fun _ hK22=>mv hk rfl fun a hk=>mv hk rfl fun a hk=>mv hk rfl fun a hk=>mv hk rfl fun a hk=>sbd (pv:=[(0,(vI iS (bia6 (w64 ((bia6 (w64 (x0+x1)) 4294967295)+y12)) 4294967295))),(1,(vI iS y20)),(2,(vI iS (bia6 (w64 ((bia6 (w64 (x2+y8)) 4294967295)+y16)) 4294967295))),(3,(vI iS y16))]) rfl hk rfl rfl rfl (bd165_6 (bia6 (w64 ((bia6 (w64 (x0+x1)) 4294967295)+y12)) 4294967295) y20 (bia6 (w64 ((bia6 (w64 (x2+y8)) 4294967295)+y16)) 4294967295) y16) fun a hk=>?_
 have lh23:([(bia6 (w64 ((bia6 (w64 (x0+x1)) 4294967295)+y12)) 4294967295),y20,(bia6 (w64 ((bia6 (w64 (x2+y8)) 4294967295)+y16)) 4294967295),y16]:List Int).length=4:=rfl
 refine sswa 1 ([(bia6 (w64 ((bia6 (w64 (x0+x1)) 4294967295)+y12)) 4294967295),y20,(bia6 (w64 ((bia6 (w64 (x2+y8)) 4294967295)+y16)) 4294967295),y16]:List Int) hs rfl o4 lh5 lh23 rfl rfl hk rfl rfl rfl rfl sz165 fun k24 w a hk o25 hs=>nx hK22 <| wp_ret ?_
 obtain rfl:=osi H
 exact fin hk _ [(aggI .i64 ([(bia6 (w64 ((bia6 (w64 (x0+x1)) 4294967295)+y12)) 4294967295),y20,(bia6 (w64 ((bia6 (w64 (x2+y8)) 4294967295)+y16)) 4294967295),y16]:List Int))] rfl ⟨⟨_,rfl,run_loadA ag165 sz165 o25 lh23 hs (q:=1) rfl⟩,trivial⟩ ⟨rfl,lh23,(hs.pick [] rfl).dnil⟩
noncomputable def spec_l02Round.f (x0:List Int) (x1:Int) (x2:Int) (x3:Int) (x4:Int):Option ((List Int)) :=
  (if 0≤x1∧x1<(16:Int) then (if 0≤x2∧x2<(16:Int) then (if 0≤x3∧x3<(16:Int) then (if 0≤x4∧x4<(16:Int) then ((spec_l02Quarter.f (x0.getD x1.toNat 0) (x0.getD x2.toNat 0) (x0.getD x3.toNat 0) (x0.getD x4.toNat 0)).bind fun y_r10_12_1=>(if 0≤(0:Int)∧(0:Int)<(4:Int) then (if 0≤x1∧x1<(16:Int) then (if 0≤(1:Int)∧(1:Int)<(4:Int) then (if 0≤x2∧x2<(16:Int) then (if 0≤(2:Int)∧(2:Int)<(4:Int) then (if 0≤x3∧x3<(16:Int) then (if 0≤(3:Int)∧(3:Int)<(4:Int) then (if 0≤x4∧x4<(16:Int) then (some ((((x0.set x1.toNat (y_r10_12_1.getD (0:Int).toNat 0)).set x2.toNat (y_r10_12_1.getD (1:Int).toNat 0)).set x3.toNat (y_r10_12_1.getD (2:Int).toNat 0)).set x4.toNat (y_r10_12_1.getD (3:Int).toNat 0))) else none) else none) else none) else none) else none) else none) else none) else none)) else none) else none) else none) else none)
theorem spec_l02Round_t (w0:World) (x0:List Int) (e0_:x0.length=16) (x1:Int) (x2:Int) (x3:Int) (x4:Int) (r:(List Int)) (H:spec_l02Round.f x0 x1 x2 x3 x4=some r) :
    Calls Tryz.prog 130 #[aggI .i64 x0,vI iS x1,vI iS x2,vI iS x3,vI iS x4] w0 (Ret (fun v w=>v=aggI .i64 r∧r.length=16∧Sat [] w0 w [] [])):=by
 have hs:=sat0 w0 [] (by simp)
 unfold spec_l02Round.f at H
 refine enter Tryz.func130 rfl Tryz.ntmps130 rfl fun a hk=>sr fun _ hK1=>sbxa 1 hs rfl hk rfl rfl rfl e0_ rfl fun b2 k3 w a hk o4 hs=>sala 2 ((Lay.int iS)) (m:=16) (z:=0) (zc:=[vI iS 0]) hs rfl hk rfl rfl ze154 (by exact ⟨rfl,rfl⟩) rfl rfl rfl fun b5 k6 w a hk o7 hs=>?_
 have lh8:(List.replicate 16 (0:Int)).length=16:=List.length_replicate
 refine nx hK1 <| sq fun _ hK9=>?_
 obtain ⟨c_r10_1_1,H⟩:=ite_no H
 obtain ⟨c_r10_4_1,H⟩:=ite_no H
 obtain ⟨c_r10_7_1,H⟩:=ite_no H
 obtain ⟨c_r10_10_1,H⟩:=ite_no H
 obtain ⟨y_r10_12_1,h_r10_12_2,H⟩:=bind_some H
 obtain ⟨R11,hR11⟩:=nm fun a w=>∃ (b_r10_13_1:Nat) (k_r10_14_1:Chunk),Kn [(1,(vI iS x1)),(2,(vI iS x2)),(3,(vI iS x3)),(4,(vI iS x4)),(5,(vP (some ⟨b2,0,none⟩))),(10,(vP (some ⟨b5,0,none⟩))),(11,(vP (some ⟨b_r10_13_1,0,none⟩)))] 42 a∧Sat [] w0 w [] [(1,k3),(2,k6),(103261,k_r10_14_1)]∧Own (Lay.int iS) 165 (some ⟨b_r10_13_1,0,none⟩) 4 y_r10_12_1 k_r10_14_1∧y_r10_12_1.length=4
 refine wp_cutq R11 ?_ ?_
 ·skip
  refine wp_region_tree (.q 0 (.q 1 (.q 2 (.q 3 (.q 4 (.q 5 (.q 6 (.q 7 (.q 8 (.q 9 (.q 10 (.q 11 (.alt 12 (.alt 13 (.last 14) .stop) (.alt 13 (.alt 12 (.last 14) .stop) .stop)))))))))))))) mo (by kernel_rfl) (hs.pick [(2,2),(1,1)] rfl) fun _=>?_
  have hs:=hs.drew
  refine tqm hk rfl fun a hk=>?_
  obtain ⟨b_r10_1_2,q_r10_1_3,hAc_r10_1_1⟩:=(o4.view).some_ x1 c_r10_1_1.1 (by rw [e0_];exact c_r10_1_1.2)
  refine tqst _ hk rfl rfl rfl rfl (fun w hs=>sia rfl hk rfl rfl rfl rfl un154 sz3 c_r10_1_1.1 c_r10_1_1.2 hAc_r10_1_1 fun a hk=>qe hk) fun a hk=>?_
  obtain ⟨_,rfl,e_r10_2_1⟩:=(o4.view).at_ 0 x1 c_r10_1_1.1 (by rw [e0_];exact c_r10_1_1.2)
  refine tqst _ hk rfl rfl rfl rfl (fun w hs=>sl (v:=(vI iS (x0.getD x1.toNat 0))) rfl hk rfl rfl rfl ag3 ((e_r10_2_1 0 _ rfl).cell (hs.hasG (k:=1) rfl)) fun a hk=>qe hk) fun a hk=>tqm hk rfl fun a hk=>?_
  obtain ⟨b_r10_4_2,q_r10_4_3,hAc_r10_4_1⟩:=(o4.view).some_ x2 c_r10_4_1.1 (by rw [e0_];exact c_r10_4_1.2)
  refine tqst _ hk rfl rfl rfl rfl (fun w hs=>sia rfl hk rfl rfl rfl rfl un154 sz3 c_r10_4_1.1 c_r10_4_1.2 hAc_r10_4_1 fun a hk=>qe hk) fun a hk=>?_
  obtain ⟨_,rfl,e_r10_5_1⟩:=(o4.view).at_ 0 x2 c_r10_4_1.1 (by rw [e0_];exact c_r10_4_1.2)
  refine tqst _ hk rfl rfl rfl rfl (fun w hs=>sl (v:=(vI iS (x0.getD x2.toNat 0))) rfl hk rfl rfl rfl ag3 ((e_r10_5_1 0 _ rfl).cell (hs.hasG (k:=1) rfl)) fun a hk=>qe hk) fun a hk=>tqm hk rfl fun a hk=>?_
  obtain ⟨b_r10_7_2,q_r10_7_3,hAc_r10_7_1⟩:=(o4.view).some_ x3 c_r10_7_1.1 (by rw [e0_];exact c_r10_7_1.2)
  refine tqst _ hk rfl rfl rfl rfl (fun w hs=>sia rfl hk rfl rfl rfl rfl un154 sz3 c_r10_7_1.1 c_r10_7_1.2 hAc_r10_7_1 fun a hk=>qe hk) fun a hk=>?_
  obtain ⟨_,rfl,e_r10_8_1⟩:=(o4.view).at_ 0 x3 c_r10_7_1.1 (by rw [e0_];exact c_r10_7_1.2)
  refine tqst _ hk rfl rfl rfl rfl (fun w hs=>sl (v:=(vI iS (x0.getD x3.toNat 0))) rfl hk rfl rfl rfl ag3 ((e_r10_8_1 0 _ rfl).cell (hs.hasG (k:=1) rfl)) fun a hk=>qe hk) fun a hk=>tqm hk rfl fun a hk=>?_
  obtain ⟨b_r10_10_2,q_r10_10_3,hAc_r10_10_1⟩:=(o4.view).some_ x4 c_r10_10_1.1 (by rw [e0_];exact c_r10_10_1.2)
  refine tqst _ hk rfl rfl rfl rfl (fun w hs=>sia rfl hk rfl rfl rfl rfl un154 sz3 c_r10_10_1.1 c_r10_10_1.2 hAc_r10_10_1 fun a hk=>qe hk) fun a hk=>?_
  obtain ⟨_,rfl,e_r10_11_1⟩:=(o4.view).at_ 0 x4 c_r10_10_1.1 (by rw [e0_];exact c_r10_10_1.2)
  refine tqst _ hk rfl rfl rfl rfl (fun w hs=>sl (v:=(vI iS (x0.getD x4.toNat 0))) rfl hk rfl rfl rfl ag3 ((e_r10_11_1 0 _ rfl).cell (hs.hasG (k:=1) rfl)) fun a hk=>qe hk) fun a hk=>tsst hk rfl rfl (fun K_r10_12 hK_r10_12 w hF=>?_) ?_
  ·skip
   have hs:=hs.f hF
   refine sc rfl en139 hk rfl rfl rfl (spec_l02Quarter_t _ (x0.getD x1.toNat 0) (x0.getD x2.toNat 0) (x0.getD x3.toNat 0) (x0.getD x4.toNat 0) _ h_r10_12_2) ?_
   rintro _ w ⟨rfl,lh_r10_12_3,hG⟩ a hk
   have hs:=hs.call0 hG
   refine se (hs.pick [(2,2),(1,1)] rfl) hk (hK_r10_12 _ _ ?_)
   refine tss hs hk rfl rfl fun _ hK_r10_13 w hs=>sala 103261 ((Lay.int iS)) (m:=4) (z:=0) (zc:=[vI iS 0]) hs rfl hk rfl rfl ze165 (by exact ⟨rfl,rfl⟩) rfl rfl rfl fun b_r10_13_1 k_r10_13_2 w a hk o_r10_13_3 hs=>?_
   have lh_r10_13_4:(List.replicate 4 (0:Int)).length=4:=List.length_replicate
   refine se (hs.pick [(2,2),(1,1)] rfl) hk (hK_r10_13 _ _ ?_)
   refine tlst hk rfl rfl fun K_r10_14 hK_r10_14 w hF=>?_
   have hs:=hs.f hF
   refine sswa 103261 y_r10_12_1 hs rfl o_r10_13_3 lh_r10_13_4 lh_r10_12_3 rfl rfl hk rfl rfl rfl rfl sz165 fun k_r10_14_1 w a hk o_r10_14_2 hs=>se trivial hk (hK_r10_14 _ _ fun w hF=>?_)
   have hs:=hs.f hF
   show R11 _ _
   rw [hR11]
   exact ⟨b_r10_13_1,k_r10_14_1,(hk.al rfl),(hs.pick [(1,1),(2,2),(103261,103261)] rfl),o_r10_14_2,lh_r10_12_3⟩
  refine tss hs hk rfl rfl fun _ hK_r10_13 w hs=>sala 103261 ((Lay.int iS)) (m:=4) (z:=0) (zc:=[vI iS 0]) hs rfl hk rfl rfl ze165 (by exact ⟨rfl,rfl⟩) rfl rfl rfl fun b_r10_13_1 k_r10_13_2 w a hk o_r10_13_3 hs=>?_
  have lh_r10_13_4:(List.replicate 4 (0:Int)).length=4:=List.length_replicate
  refine se (hs.pick [(2,2),(1,1)] rfl) hk (hK_r10_13 _ _ ?_)
  refine tss hs hk rfl rfl fun _ hK_r10_12 w hs=>sc rfl en139 hk rfl rfl rfl (spec_l02Quarter_t _ (x0.getD x1.toNat 0) (x0.getD x2.toNat 0) (x0.getD x3.toNat 0) (x0.getD x4.toNat 0) _ h_r10_12_2) ?_
  rintro _ w ⟨rfl,lh_r10_12_3,hG⟩ a hk
  have hs:=hs.call0 hG
  refine se (hs.pick [(2,2),(1,1)] rfl) hk (hK_r10_12 _ _ ?_)
  refine tlst hk rfl rfl fun K_r10_14 hK_r10_14 w hF=>?_
  have hs:=hs.f hF
  refine sswa 103261 y_r10_12_1 hs rfl o_r10_13_3 lh_r10_13_4 lh_r10_12_3 rfl rfl hk rfl rfl rfl rfl sz165 fun k_r10_14_1 w a hk o_r10_14_2 hs=>se trivial hk (hK_r10_14 _ _ fun w hF=>?_)
  have hs:=hs.f hF
  show R11 _ _
  rw [hR11]
  exact ⟨b_r10_13_1,k_r10_14_1,(hk.al rfl),(hs.pick [(1,1),(2,2),(103261,103261)] rfl),o_r10_14_2,lh_r10_12_3⟩
 intro a w hR0
 rw [hR11] at hR0
 obtain ⟨b_r10_13_1,k_r10_14_1,hk,hs,o_r10_14_2,lh_r10_12_3⟩:=hR0
 refine hK9 _ _ <| sr fun _ hK12=>mv hk rfl fun a hk=>?_
 obtain ⟨c13,H⟩:=ite_no H
 obtain ⟨b14,q15,hAc13⟩:=(o_r10_14_2.view).some_ (0:Int) c13.1 (by rw [lh_r10_12_3];exact c13.2)
 refine sia rfl hk rfl rfl rfl rfl un165 sz3 c13.1 c13.2 hAc13 fun a hk=>?_
 obtain ⟨_,rfl,e16⟩:=(o_r10_14_2.view).at_ 0 (0:Int) c13.1 (by rw [lh_r10_12_3];exact c13.2)
 refine sl (v:=(vI iS (y_r10_12_1.getD (0:Int).toNat 0))) rfl hk rfl rfl rfl ag3 ((e16 0 _ rfl).cell (hs.hasG (k:=103261) rfl)) fun a hk=>?_
 obtain ⟨c17,H⟩:=ite_no H
 obtain ⟨b18,q19,hAc17⟩:=(o4.view).some_ x1 c17.1 (by rw [e0_];exact c17.2)
 refine sia rfl hk rfl rfl rfl rfl un154 sz3 c17.1 c17.2 hAc17 fun a hk=>so (j:=0) 1 0 (y_r10_12_1.getD (0:Int).toNat 0) hs rfl o4 c17.1 (by rw [e0_];exact c17.2) rfl hk rfl rfl rfl rfl rfl sz3 (by simp [Value.cells,Value.oneCell']) (Nat.le_of_ble_eq_true rfl) (fun _ _ h=>⟨by rw [h.1];rfl,h.2⟩) fun k20 w a hk o21 hs=>?_
 have lh22:(x0.set x1.toNat (y_r10_12_1.getD (0:Int).toNat 0)).length=16:=by rw [List.length_set];exact e0_
 refine nx hK12 <| sr fun _ hK23=>mv hk rfl fun a hk=>?_
 obtain ⟨c24,H⟩:=ite_no H
 obtain ⟨b25,q26,hAc24⟩:=(o_r10_14_2.view).some_ (1:Int) c24.1 (by rw [lh_r10_12_3];exact c24.2)
 refine sia rfl hk rfl rfl rfl rfl un165 sz3 c24.1 c24.2 hAc24 fun a hk=>?_
 obtain ⟨_,rfl,e27⟩:=(o_r10_14_2.view).at_ 0 (1:Int) c24.1 (by rw [lh_r10_12_3];exact c24.2)
 refine sl (v:=(vI iS (y_r10_12_1.getD (1:Int).toNat 0))) rfl hk rfl rfl rfl ag3 ((e27 0 _ rfl).cell (hs.hasG (k:=103261) rfl)) fun a hk=>?_
 obtain ⟨c28,H⟩:=ite_no H
 obtain ⟨b29,q30,hAc28⟩:=(o21.view).some_ x2 c28.1 (by rw [lh22];exact c28.2)
 refine sia rfl hk rfl rfl rfl rfl un154 sz3 c28.1 c28.2 hAc28 fun a hk=>so (j:=0) 1 0 (y_r10_12_1.getD (1:Int).toNat 0) hs rfl o21 c28.1 (by rw [lh22];exact c28.2) rfl hk rfl rfl rfl rfl rfl sz3 (by simp [Value.cells,Value.oneCell']) (Nat.le_of_ble_eq_true rfl) (fun _ _ h=>⟨by rw [h.1];rfl,h.2⟩) fun k31 w a hk o32 hs=>?_
 have lh33:((x0.set x1.toNat (y_r10_12_1.getD (0:Int).toNat 0)).set x2.toNat (y_r10_12_1.getD (1:Int).toNat 0)).length=16:=by rw [List.length_set];exact lh22
 refine nx hK23 <| sr fun _ hK34=>mv hk rfl fun a hk=>?_
 obtain ⟨c35,H⟩:=ite_no H
 obtain ⟨b36,q37,hAc35⟩:=(o_r10_14_2.view).some_ (2:Int) c35.1 (by rw [lh_r10_12_3];exact c35.2)
 refine sia rfl hk rfl rfl rfl rfl un165 sz3 c35.1 c35.2 hAc35 fun a hk=>?_
 obtain ⟨_,rfl,e38⟩:=(o_r10_14_2.view).at_ 0 (2:Int) c35.1 (by rw [lh_r10_12_3];exact c35.2)
 refine sl (v:=(vI iS (y_r10_12_1.getD (2:Int).toNat 0))) rfl hk rfl rfl rfl ag3 ((e38 0 _ rfl).cell (hs.hasG (k:=103261) rfl)) fun a hk=>?_
 obtain ⟨c39,H⟩:=ite_no H
 obtain ⟨b40,q41,hAc39⟩:=(o32.view).some_ x3 c39.1 (by rw [lh33];exact c39.2)
 refine sia rfl hk rfl rfl rfl rfl un154 sz3 c39.1 c39.2 hAc39 fun a hk=>so (j:=0) 1 0 (y_r10_12_1.getD (2:Int).toNat 0) hs rfl o32 c39.1 (by rw [lh33];exact c39.2) rfl hk rfl rfl rfl rfl rfl sz3 (by simp [Value.cells,Value.oneCell']) (Nat.le_of_ble_eq_true rfl) (fun _ _ h=>⟨by rw [h.1];rfl,h.2⟩) fun k42 w a hk o43 hs=>?_
 have lh44:(((x0.set x1.toNat (y_r10_12_1.getD (0:Int).toNat 0)).set x2.toNat (y_r10_12_1.getD (1:Int).toNat 0)).set x3.toNat (y_r10_12_1.getD (2:Int).toNat 0)).length=16:=by rw [List.length_set];exact lh33
 refine nx hK34 <| sr fun _ hK45=>mv hk rfl fun a hk=>?_
 obtain ⟨c46,H⟩:=ite_no H
 obtain ⟨b47,q48,hAc46⟩:=(o_r10_14_2.view).some_ (3:Int) c46.1 (by rw [lh_r10_12_3];exact c46.2)
 refine sia rfl hk rfl rfl rfl rfl un165 sz3 c46.1 c46.2 hAc46 fun a hk=>?_
 obtain ⟨_,rfl,e49⟩:=(o_r10_14_2.view).at_ 0 (3:Int) c46.1 (by rw [lh_r10_12_3];exact c46.2)
 refine sl (v:=(vI iS (y_r10_12_1.getD (3:Int).toNat 0))) rfl hk rfl rfl rfl ag3 ((e49 0 _ rfl).cell (hs.hasG (k:=103261) rfl)) fun a hk=>?_
 obtain ⟨c50,H⟩:=ite_no H
 obtain ⟨b51,q52,hAc50⟩:=(o43.view).some_ x4 c50.1 (by rw [lh44];exact c50.2)
 refine sia rfl hk rfl rfl rfl rfl un154 sz3 c50.1 c50.2 hAc50 fun a hk=>so (j:=0) 1 0 (y_r10_12_1.getD (3:Int).toNat 0) hs rfl o43 c50.1 (by rw [lh44];exact c50.2) rfl hk rfl rfl rfl rfl rfl sz3 (by simp [Value.cells,Value.oneCell']) (Nat.le_of_ble_eq_true rfl) (fun _ _ h=>⟨by rw [h.1];rfl,h.2⟩) fun k53 w a hk o54 hs=>?_
 have lh55:((((x0.set x1.toNat (y_r10_12_1.getD (0:Int).toNat 0)).set x2.toNat (y_r10_12_1.getD (1:Int).toNat 0)).set x3.toNat (y_r10_12_1.getD (2:Int).toNat 0)).set x4.toNat (y_r10_12_1.getD (3:Int).toNat 0)).length=16:=by rw [List.length_set];exact lh44
 refine nx hK45 <| sr fun _ hK56=>slna (k:=1) hs rfl o54 lh55 rfl hk rfl rfl rfl ag154 sz154 fun a hk=>sswa 2 ((((x0.set x1.toNat (y_r10_12_1.getD (0:Int).toNat 0)).set x2.toNat (y_r10_12_1.getD (1:Int).toNat 0)).set x3.toNat (y_r10_12_1.getD (2:Int).toNat 0)).set x4.toNat (y_r10_12_1.getD (3:Int).toNat 0)) hs rfl o7 lh8 lh55 rfl rfl hk rfl rfl rfl rfl sz154 fun k57 w a hk o58 hs=>nx hK56 <| wp_ret ?_
 obtain rfl:=osi H
 exact fin hk _ [(aggI .i64 ((((x0.set x1.toNat (y_r10_12_1.getD (0:Int).toNat 0)).set x2.toNat (y_r10_12_1.getD (1:Int).toNat 0)).set x3.toNat (y_r10_12_1.getD (2:Int).toNat 0)).set x4.toNat (y_r10_12_1.getD (3:Int).toNat 0)))] rfl ⟨⟨_,rfl,run_loadA ag154 sz154 o58 lh55 hs (q:=2) rfl⟩,trivial⟩ ⟨rfl,lh55,(hs.pick [] rfl).dnil⟩
noncomputable def spec_l02Block.s0  (u14:List Int) (u18:Int):Option (((List Int)×Int) ⊕ Ex ((List Int)) (ByteArray)) :=
  (bif (decide (u18<4)) then ((spec_l02Word.f (⟨#[101,120,112,97,110,100,32,51,50,45,98,121,116,101,32,107]⟩:ByteArray) (w64 (4*u18))).bind fun y35=>(if 0≤u18∧u18<(16:Int) then (some (.inl ((u14.set u18.toNat y35),(w64 (u18+1))))) else none)) else (some (.inr (.out u14))))
noncomputable def spec_l02Block.s1 (x0:ByteArray) (u48:List Int) (u52:Int):Option (((List Int)×Int) ⊕ Ex ((List Int)) (ByteArray)) :=
  (bif (decide (u52<8)) then ((spec_l02Word.f x0 (w64 (4*u52))).bind fun y69=>(if 0≤(w64 (4+u52))∧(w64 (4+u52))<(16:Int) then (some (.inl ((u48.set (w64 (4+u52)).toNat y69),(w64 (u52+1))))) else none)) else (some (.inr (.out u48))))
noncomputable def spec_l02Block.s2 (x1:ByteArray) (u89:List Int) (u93:Int):Option (((List Int)×Int) ⊕ Ex ((List Int)) (ByteArray)) :=
  (bif (decide (u93<3)) then ((spec_l02Word.f x1 (w64 (4*u93))).bind fun y110=>(if 0≤(w64 (13+u93))∧(w64 (13+u93))<(16:Int) then (some (.inl ((u89.set (w64 (13+u93)).toNat y110),(w64 (u93+1))))) else none)) else (some (.inr (.out u89))))
noncomputable def spec_l02Block.s4  (u155:List Int) (u159:Int):Option (((List Int)×Int) ⊕ Ex ((List Int)) (ByteArray)) :=
  (bif (decide (u159<4)) then ((spec_l02Round.f u155 u159 (w64 (4+u159)) (w64 (8+u159)) (w64 (12+u159))).bind fun y176=>(some (.inl (y176,(w64 (u159+1)))))) else (some (.inr (.out u155))))
noncomputable def spec_l02Block.s5  (u185:List Int) (u189:Int):Option (((List Int)×Int) ⊕ Ex ((List Int)) (ByteArray)) :=
  (bif (decide (u189<4)) then ((spec_l02Round.f u185 u189 (w64 (4+(Int.tmod (w64 (u189+1)) 4))) (w64 (8+(Int.tmod (w64 (u189+2)) 4))) (w64 (12+(Int.tmod (w64 (u189+3)) 4)))).bind fun y206=>(some (.inl (y206,(w64 (u189+1)))))) else (some (.inr (.out u185))))
noncomputable def spec_l02Block.s3  (u130:List Int) (u134:Int):Option (((List Int)×Int) ⊕ Ex ((List Int)) (ByteArray)) :=
  (bif (decide (u134<10)) then ((loopO (fun s=>spec_l02Block.s4  s.1 s.2) (u130,0)).bind fun o=>match o with | .out u160=>((loopO (fun s=>spec_l02Block.s5  s.1 s.2) (u160,0)).bind fun o=>match o with | .out u190=>(some (.inl (u190,(w64 (u134+1))))) | .ret r=>(some (.inr (.ret r)))) | .ret r=>(some (.inr (.ret r)))) else (some (.inr (.out u130))))
noncomputable def spec_l02Block.s6 (u94:List Int) (u135:List Int) (u226:List Int) (u225:Int):Option (((List Int)×Int) ⊕ Ex ((List Int)) (ByteArray)) :=
  (bif (decide (u225<16)) then (if 0≤u225∧u225<(16:Int) then (if 0≤u225∧u225<(16:Int) then ((spec_l02Bytes.f u226 (wR iS ((bO 64 (w64 ((u135.getD u225.toNat 0)+(u94.getD u225.toNat 0))) &&& bO 64 4294967295).toNat:Int))).bind fun y257=>(some (.inl (y257,(w64 (u225+1)))))) else none) else none) else (some (.inr (.out u226))))
noncomputable def spec_l02Block.f (x0:ByteArray) (x1:ByteArray) (x2:Int):Option (ByteArray) :=
  ((loopO (fun s=>spec_l02Block.s0  s.1 s.2) ((List.replicate 16 (0:Int)),0)).bind fun o=>match o with | .out u19=>((loopO (fun s=>spec_l02Block.s1 x0 s.1 s.2) (u19,0)).bind fun o=>match o with | .out u53=>(if 0≤(12:Int)∧(12:Int)<(16:Int) then ((loopO (fun s=>spec_l02Block.s2 x1 s.1 s.2) ((u53.set (12:Int).toNat x2),0)).bind fun o=>match o with | .out u94=>((loopO (fun s=>spec_l02Block.s3  s.1 s.2) (u94,0)).bind fun o=>match o with | .out u135=>((loopO (fun s=>spec_l02Block.s6 u94 u135 s.1 s.2) (([]:List Int),0)).bind fun o=>match o with | .out u231=>(some (strOfNums u231)) | .ret r=>(some r)) | .ret r=>(some r)) | .ret r=>(some r)) else none) | .ret r=>(some r)) | .ret r=>(some r))
theorem spec_l02Block_t (w0:World) (x0:ByteArray) (x1:ByteArray) (x2:Int) (r:ByteArray) (H:spec_l02Block.f x0 x1 x2=some r) :
    Calls Tryz.prog 110 #[vS x0,vS x1,vI iS x2] w0 (Ret (fun v w=>v=vS r∧Sat [] w0 w [] [])):=by
 have hs:=sat0 w0 [] (by simp)
 unfold spec_l02Block.f at H
 refine enter Tryz.func110 rfl Tryz.ntmps110 rfl fun a hk=>sr fun _ hK1=>mv hk rfl fun a hk=>nx hK1 <| sr fun _ hK2=>sbd (pv:=[]) rfl hk rfl rfl rfl bd154_7 fun a hk=>?_
 have lh3:(List.replicate 16 (0:Int)).length=16:=List.length_replicate
 refine sala 1 ((Lay.int iS)) (m:=16) (z:=0) (zc:=[vI iS 0]) hs rfl hk rfl rfl ze154 (by exact ⟨rfl,rfl⟩) rfl rfl rfl fun b4 k5 w a hk o6 hs=>?_
 have lh7:(List.replicate 16 (0:Int)).length=16:=List.length_replicate
 refine sswa 1 (List.replicate 16 (0:Int)) hs rfl o6 lh7 lh3 rfl rfl hk rfl rfl rfl rfl sz154 fun k8 w a hk o9 hs=>nx hK2 <| sq fun _ hK10=>sr fun _ hK11=>mv hk rfl fun a hk=>nx hK11 ?_
 obtain ⟨o23,h24,HL25⟩:=bind_some H
 clear H
 obtain ⟨R26,hR26⟩:=nm fun a w=>∃ (u19:List Int) (k20:Chunk),o23 = .out u19∧Kn [(0,(vS x0)),(1,(vS x1)),(2,(vI iS x2)),(7,(vP (some ⟨b4,0,none⟩)))] 105 a∧Sat [] w0 w [] [(1,k20)]∧Own (Lay.int iS) 154 (some ⟨b4,0,none⟩) 16 u19 k20∧u19.length=16
 refine wp_cutq R26 ?_ ?_
 ·refine wp_block ?_
  obtain ⟨fu28,h24⟩:=loopO_some h24
  obtain ⟨I27,hI27⟩:=nm fun fu a w=>∃ (u14:List Int) (u18:Int) (k15:Chunk),loopN (fun s=>spec_l02Block.s0  s.1 s.2) fu (u14,u18)=some o23∧Kn [(0,(vS x0)),(1,(vS x1)),(2,(vI iS x2)),(7,(vP (some ⟨b4,0,none⟩))),(8,(vI iS u18))] 105 a∧Sat [] w0 w [] [(1,k15)]∧Own (Lay.int iS) 154 (some ⟨b4,0,none⟩) 16 u14 k15∧u14.length=16
  refine wp_loop_ghost I27 fu28 ?_ ?_
  ·rw [hI27]
   exact ⟨_,_,_,h24,(hk.al rfl),(hs.pick [(1,1)] rfl),o9,lh3⟩
  clear h24 hk hs
  intro fu28 a w hI0
  rw [hI27] at hI0
  obtain ⟨u14,u18,k15,hi,hk,hs,o16,lh17⟩:=hI0
  obtain ⟨x29,H,h30⟩:=loop_round hi
  try dsimp only at H
  unfold spec_l02Block.s0 at H
  refine sq fun _ hK31=>sr fun _ hK32=>mv hk rfl fun a hk=>sv (.bool (decide (u18<4))) hk rfl rfl rfl fun a hk=>nx hK32 ?_
  rcases cond_some H with ⟨c33,H⟩ | ⟨c33,H⟩
  ·have hk:=hk.lit 19 c33 rfl
   refine cnd_true hk rfl rfl <| wp_skip <| hK31 _ _ <| sq fun _ hK34=>wp_block ?_
   apply wp_region_lit
   refine mv hk rfl fun a hk=>mv hk rfl fun a hk=>sv (vI iS (w64 (4*u18))) hk rfl rfl rfl fun a hk=>?_
   obtain ⟨y35,h36,H⟩:=bind_some H
   refine sc rfl en129 hk rfl rfl rfl (spec_l02Word_t _ (⟨#[101,120,112,97,110,100,32,51,50,45,98,121,116,101,32,107]⟩:ByteArray) (w64 (4*u18)) _ h36) ?_
   rintro _ w ⟨rfl,hG⟩ a hk
   have hs:=hs.call0 hG
   obtain ⟨c37,H⟩:=ite_no H
   obtain ⟨b38,q39,hAc37⟩:=(o16.view).some_ u18 c37.1 (by rw [lh17];exact c37.2)
   refine sia rfl hk rfl rfl rfl rfl un154 sz3 c37.1 c37.2 hAc37 fun a hk=>so (j:=0) 1 0 y35 hs rfl o16 c37.1 (by rw [lh17];exact c37.2) rfl hk rfl rfl rfl rfl rfl sz3 (by simp [Value.cells,Value.oneCell']) (Nat.le_of_ble_eq_true rfl) (fun _ _ h=>⟨by rw [h.1];rfl,h.2⟩) fun k40 w a hk o41 hs=>?_
   have lh42:(u14.set u18.toNat y35).length=16:=by rw [List.length_set];exact lh17
   refine nx hK34 ?_
   apply wp_region_lit
   refine mv hk rfl fun a hk=>sv (vI iS (w64 (u18+1))) hk rfl rfl rfl fun a hk=>mv hk rfl fun a hk=>?_
   show wpList _ _ _ [] _ _
   refine wpList_nil ?_
   obtain rfl:=osi H
   obtain ⟨m43,hmm43,h30⟩:=h30
   show ∃ n',n'<_∧I27 n' _ _
   refine ⟨m43,hmm43,?_⟩
   rw [hI27]
   exact ⟨_,_,_,h30,(hk.al rfl),(hs.pick [(1,1)] rfl),o41,lh42⟩
  have hk:=hk.lit 19 c33 rfl
  refine cnd_false hk rfl rfl <| wp_exit ?_
  obtain rfl:=osi H
  show R26 _ _
  rw [hR26]
  exact ⟨_,_,h30.symm,(hk.al rfl),(hs.pick [(1,1)] rfl),o16,lh17⟩
 intro a w hR0
 rw [hR26] at hR0
 obtain ⟨u19,k20,rfl,hk,hs,o21,lh22⟩:=hR0
 have H:=HL25
 try dsimp only at H
 refine hK10 _ _ <| sq fun _ hK44=>sr fun _ hK45=>mv hk rfl fun a hk=>nx hK45 ?_
 obtain ⟨o57,h58,HL59⟩:=bind_some H
 clear H
 obtain ⟨R60,hR60⟩:=nm fun a w=>∃ (u53:List Int) (k54:Chunk),o57 = .out u53∧Kn [(1,(vS x1)),(2,(vI iS x2)),(7,(vP (some ⟨b4,0,none⟩)))] 105 a∧Sat [] w0 w [] [(1,k54)]∧Own (Lay.int iS) 154 (some ⟨b4,0,none⟩) 16 u53 k54∧u53.length=16
 refine wp_cutq R60 ?_ ?_
 ·refine wp_block ?_
  obtain ⟨fu62,h58⟩:=loopO_some h58
  obtain ⟨I61,hI61⟩:=nm fun fu a w=>∃ (u48:List Int) (u52:Int) (k49:Chunk),loopN (fun s=>spec_l02Block.s1 x0 s.1 s.2) fu (u48,u52)=some o57∧Kn [(0,(vS x0)),(1,(vS x1)),(2,(vI iS x2)),(7,(vP (some ⟨b4,0,none⟩))),(9,(vI iS u52))] 105 a∧Sat [] w0 w [] [(1,k49)]∧Own (Lay.int iS) 154 (some ⟨b4,0,none⟩) 16 u48 k49∧u48.length=16
  refine wp_loop_ghost I61 fu62 ?_ ?_
  ·rw [hI61]
   exact ⟨_,_,_,h58,(hk.al rfl),(hs.pick [(1,1)] rfl),o21,lh22⟩
  clear h58 hk hs
  intro fu62 a w hI0
  rw [hI61] at hI0
  obtain ⟨u48,u52,k49,hi,hk,hs,o50,lh51⟩:=hI0
  obtain ⟨x63,H,h64⟩:=loop_round hi
  try dsimp only at H
  unfold spec_l02Block.s1 at H
  refine sq fun _ hK65=>sr fun _ hK66=>mv hk rfl fun a hk=>sv (.bool (decide (u52<8))) hk rfl rfl rfl fun a hk=>nx hK66 ?_
  rcases cond_some H with ⟨c67,H⟩ | ⟨c67,H⟩
  ·have hk:=hk.lit 28 c67 rfl
   refine cnd_true hk rfl rfl <| wp_skip <| hK65 _ _ <| sq fun _ hK68=>wp_block ?_
   apply wp_region_lit
   refine mv hk rfl fun a hk=>sv (vI iS (w64 (4+u52))) hk rfl rfl rfl fun a hk=>mv hk rfl fun a hk=>mv hk rfl fun a hk=>sv (vI iS (w64 (4*u52))) hk rfl rfl rfl fun a hk=>?_
   obtain ⟨y69,h70,H⟩:=bind_some H
   refine sc rfl en129 hk rfl rfl rfl (spec_l02Word_t _ x0 (w64 (4*u52)) _ h70) ?_
   rintro _ w ⟨rfl,hG⟩ a hk
   have hs:=hs.call0 hG
   obtain ⟨c71,H⟩:=ite_no H
   obtain ⟨b72,q73,hAc71⟩:=(o50.view).some_ (w64 (4+u52)) c71.1 (by rw [lh51];exact c71.2)
   refine sia rfl hk rfl rfl rfl rfl un154 sz3 c71.1 c71.2 hAc71 fun a hk=>so (j:=0) 1 0 y69 hs rfl o50 c71.1 (by rw [lh51];exact c71.2) rfl hk rfl rfl rfl rfl rfl sz3 (by simp [Value.cells,Value.oneCell']) (Nat.le_of_ble_eq_true rfl) (fun _ _ h=>⟨by rw [h.1];rfl,h.2⟩) fun k74 w a hk o75 hs=>?_
   have lh76:(u48.set (w64 (4+u52)).toNat y69).length=16:=by rw [List.length_set];exact lh51
   refine nx hK68 ?_
   have hs:=hs.pick [(1,1)] rfl
   apply wp_region_lit
   refine mv hk rfl fun a hk=>sv (vI iS (w64 (u52+1))) hk rfl rfl rfl fun a hk=>mv hk rfl fun a hk=>?_
   show wpList _ _ _ [] _ _
   refine wpList_nil ?_
   obtain rfl:=osi H
   obtain ⟨m77,hmm77,h64⟩:=h64
   show ∃ n',n'<_∧I61 n' _ _
   refine ⟨m77,hmm77,?_⟩
   rw [hI61]
   exact ⟨_,_,_,h64,(hk.al rfl),(hs.pick [(1,1)] rfl),o75,lh76⟩
  have hk:=hk.lit 28 c67 rfl
  refine cnd_false hk rfl rfl <| wp_exit ?_
  obtain rfl:=osi H
  show R60 _ _
  rw [hR60]
  exact ⟨_,_,h64.symm,(hk.al rfl),(hs.pick [(1,1)] rfl),o50,lh51⟩
 intro a w hR0
 rw [hR60] at hR0
 obtain ⟨u53,k54,rfl,hk,hs,o55,lh56⟩:=hR0
 have H:=HL59
 try dsimp only at H
 refine hK44 _ _ <| sr fun _ hK78=>mv hk rfl fun a hk=>?_
 obtain ⟨c79,H⟩:=ite_no H
 obtain ⟨b80,q81,hAc79⟩:=(o55.view).some_ (12:Int) c79.1 (by rw [lh56];exact c79.2)
 refine sia rfl hk rfl rfl rfl rfl un154 sz3 c79.1 c79.2 hAc79 fun a hk=>so (j:=0) 1 0 x2 hs rfl o55 c79.1 (by rw [lh56];exact c79.2) rfl hk rfl rfl rfl rfl rfl sz3 (by simp [Value.cells,Value.oneCell']) (Nat.le_of_ble_eq_true rfl) (fun _ _ h=>⟨by rw [h.1];rfl,h.2⟩) fun k82 w a hk o83 hs=>?_
 have lh84:(u53.set (12:Int).toNat x2).length=16:=by rw [List.length_set];exact lh56
 refine nx hK78 <| sq fun _ hK85=>sr fun _ hK86=>mv hk rfl fun a hk=>nx hK86 ?_
 have hs:=hs.pick [(1,1)] rfl
 obtain ⟨o98,h99,HL100⟩:=bind_some H
 clear H
 obtain ⟨R101,hR101⟩:=nm fun a w=>∃ (u94:List Int) (k95:Chunk),o98 = .out u94∧Kn [(7,(vP (some ⟨b4,0,none⟩)))] 105 a∧Sat [] w0 w [] [(1,k95)]∧Own (Lay.int iS) 154 (some ⟨b4,0,none⟩) 16 u94 k95∧u94.length=16
 refine wp_cutq R101 ?_ ?_
 ·refine wp_block ?_
  obtain ⟨fu103,h99⟩:=loopO_some h99
  obtain ⟨I102,hI102⟩:=nm fun fu a w=>∃ (u89:List Int) (u93:Int) (k90:Chunk),loopN (fun s=>spec_l02Block.s2 x1 s.1 s.2) fu (u89,u93)=some o98∧Kn [(1,(vS x1)),(7,(vP (some ⟨b4,0,none⟩))),(10,(vI iS u93))] 105 a∧Sat [] w0 w [] [(1,k90)]∧Own (Lay.int iS) 154 (some ⟨b4,0,none⟩) 16 u89 k90∧u89.length=16
  refine wp_loop_ghost I102 fu103 ?_ ?_
  ·rw [hI102]
   exact ⟨_,_,_,h99,(hk.al rfl),(hs.pick [(1,1)] rfl),o83,lh84⟩
  clear h99 hk hs
  intro fu103 a w hI0
  rw [hI102] at hI0
  obtain ⟨u89,u93,k90,hi,hk,hs,o91,lh92⟩:=hI0
  obtain ⟨x104,H,h105⟩:=loop_round hi
  try dsimp only at H
  unfold spec_l02Block.s2 at H
  refine sq fun _ hK106=>sr fun _ hK107=>mv hk rfl fun a hk=>sv (.bool (decide (u93<3))) hk rfl rfl rfl fun a hk=>nx hK107 ?_
  rcases cond_some H with ⟨c108,H⟩ | ⟨c108,H⟩
  ·have hk:=hk.lit 41 c108 rfl
   refine cnd_true hk rfl rfl <| wp_skip <| hK106 _ _ <| sq fun _ hK109=>wp_block ?_
   apply wp_region_lit
   refine mv hk rfl fun a hk=>sv (vI iS (w64 (13+u93))) hk rfl rfl rfl fun a hk=>mv hk rfl fun a hk=>mv hk rfl fun a hk=>sv (vI iS (w64 (4*u93))) hk rfl rfl rfl fun a hk=>?_
   obtain ⟨y110,h111,H⟩:=bind_some H
   refine sc rfl en129 hk rfl rfl rfl (spec_l02Word_t _ x1 (w64 (4*u93)) _ h111) ?_
   rintro _ w ⟨rfl,hG⟩ a hk
   have hs:=hs.call0 hG
   obtain ⟨c112,H⟩:=ite_no H
   obtain ⟨b113,q114,hAc112⟩:=(o91.view).some_ (w64 (13+u93)) c112.1 (by rw [lh92];exact c112.2)
   refine sia rfl hk rfl rfl rfl rfl un154 sz3 c112.1 c112.2 hAc112 fun a hk=>so (j:=0) 1 0 y110 hs rfl o91 c112.1 (by rw [lh92];exact c112.2) rfl hk rfl rfl rfl rfl rfl sz3 (by simp [Value.cells,Value.oneCell']) (Nat.le_of_ble_eq_true rfl) (fun _ _ h=>⟨by rw [h.1];rfl,h.2⟩) fun k115 w a hk o116 hs=>?_
   have lh117:(u89.set (w64 (13+u93)).toNat y110).length=16:=by rw [List.length_set];exact lh92
   refine nx hK109 ?_
   apply wp_region_lit
   refine mv hk rfl fun a hk=>sv (vI iS (w64 (u93+1))) hk rfl rfl rfl fun a hk=>mv hk rfl fun a hk=>?_
   show wpList _ _ _ [] _ _
   refine wpList_nil ?_
   obtain rfl:=osi H
   obtain ⟨m118,hmm118,h105⟩:=h105
   show ∃ n',n'<_∧I102 n' _ _
   refine ⟨m118,hmm118,?_⟩
   rw [hI102]
   exact ⟨_,_,_,h105,(hk.al rfl),(hs.pick [(1,1)] rfl),o116,lh117⟩
  have hk:=hk.lit 41 c108 rfl
  refine cnd_false hk rfl rfl <| wp_exit ?_
  obtain rfl:=osi H
  show R101 _ _
  rw [hR101]
  exact ⟨_,_,h105.symm,(hk.al rfl),(hs.pick [(1,1)] rfl),o91,lh92⟩
 intro a w hR0
 rw [hR101] at hR0
 obtain ⟨u94,k95,rfl,hk,hs,o96,lh97⟩:=hR0
 have H:=HL100
 try dsimp only at H
 refine hK85 _ _ <| sr fun _ hK119=>slna (k:=1) hs rfl o96 lh97 rfl hk rfl rfl rfl ag154 sz154 fun a hk=>sala 5 ((Lay.int iS)) (m:=16) (z:=0) (zc:=[vI iS 0]) hs rfl hk rfl rfl ze154 (by exact ⟨rfl,rfl⟩) rfl rfl rfl fun b120 k121 w a hk o122 hs=>?_
 have lh123:(List.replicate 16 (0:Int)).length=16:=List.length_replicate
 refine sswa 5 u94 hs rfl o122 lh123 lh97 rfl rfl hk rfl rfl rfl rfl sz154 fun k124 w a hk o125 hs=>nx hK119 <| sq fun _ hK126=>sr fun _ hK127=>mv hk rfl fun a hk=>nx hK127 ?_
 obtain ⟨o139,h140,HL141⟩:=bind_some H
 clear H
 obtain ⟨R142,hR142⟩:=nm fun a w=>∃ (u135:List Int) (k136:Chunk),o139 = .out u135∧Kn [(7,(vP (some ⟨b4,0,none⟩))),(11,(vP (some ⟨b120,0,none⟩)))] 105 a∧Sat [] w0 w [] [(1,k95),(5,k136)]∧Own (Lay.int iS) 154 (some ⟨b120,0,none⟩) 16 u135 k136∧u135.length=16
 refine wp_cutq R142 ?_ ?_
 ·refine wp_block ?_
  obtain ⟨fu144,h140⟩:=loopO_some h140
  obtain ⟨I143,hI143⟩:=nm fun fu a w=>∃ (u130:List Int) (u134:Int) (k131:Chunk),loopN (fun s=>spec_l02Block.s3  s.1 s.2) fu (u130,u134)=some o139∧Kn [(7,(vP (some ⟨b4,0,none⟩))),(11,(vP (some ⟨b120,0,none⟩))),(12,(vI iS u134))] 105 a∧Sat [] w0 w [] [(1,k95),(5,k131)]∧Own (Lay.int iS) 154 (some ⟨b120,0,none⟩) 16 u130 k131∧u130.length=16
  refine wp_loop_ghost I143 fu144 ?_ ?_
  ·rw [hI143]
   exact ⟨_,_,_,h140,(hk.al rfl),(hs.pick [(1,1),(5,5)] rfl),o125,lh97⟩
  clear h140 hk hs
  intro fu144 a w hI0
  rw [hI143] at hI0
  obtain ⟨u130,u134,k131,hi,hk,hs,o132,lh133⟩:=hI0
  obtain ⟨x145,H,h146⟩:=loop_round hi
  try dsimp only at H
  unfold spec_l02Block.s3 at H
  refine sq fun _ hK147=>sr fun _ hK148=>mv hk rfl fun a hk=>sv (.bool (decide (u134<10))) hk rfl rfl rfl fun a hk=>nx hK148 ?_
  rcases cond_some H with ⟨c149,H⟩ | ⟨c149,H⟩
  ·have hk:=hk.lit 53 c149 rfl
   refine cnd_true hk rfl rfl <| wp_skip <| hK147 _ _ <| sq fun _ hK150=>wp_block ?_
   refine sq fun _ hK151=>sr fun _ hK152=>mv hk rfl fun a hk=>nx hK152 ?_
   obtain ⟨o164,h165,HL166⟩:=bind_some H
   clear H
   obtain ⟨R167,hR167⟩:=nm fun a w=>∃ (u160:List Int) (k161:Chunk),o164 = .out u160∧Kn [(7,(vP (some ⟨b4,0,none⟩))),(11,(vP (some ⟨b120,0,none⟩))),(12,(vI iS u134))] 105 a∧Sat [] w0 w [] [(1,k95),(5,k161)]∧Own (Lay.int iS) 154 (some ⟨b120,0,none⟩) 16 u160 k161∧u160.length=16
   refine wp_cutq R167 ?_ ?_
   ·refine wp_block ?_
    obtain ⟨fu169,h165⟩:=loopO_some h165
    obtain ⟨I168,hI168⟩:=nm fun fu a w=>∃ (u155:List Int) (u159:Int) (k156:Chunk),loopN (fun s=>spec_l02Block.s4  s.1 s.2) fu (u155,u159)=some o164∧Kn [(7,(vP (some ⟨b4,0,none⟩))),(11,(vP (some ⟨b120,0,none⟩))),(12,(vI iS u134)),(13,(vI iS u159))] 105 a∧Sat [] w0 w [] [(1,k95),(5,k156)]∧Own (Lay.int iS) 154 (some ⟨b120,0,none⟩) 16 u155 k156∧u155.length=16
    refine wp_loop_ghost I168 fu169 ?_ ?_
    ·rw [hI168]
     exact ⟨_,_,_,h165,(hk.al rfl),(hs.pick [(1,1),(5,5)] rfl),o132,lh133⟩
    clear h165 hk hs
    intro fu169 a w hI0
    rw [hI168] at hI0
    obtain ⟨u155,u159,k156,hi,hk,hs,o157,lh158⟩:=hI0
    obtain ⟨x170,H,h171⟩:=loop_round hi
    try dsimp only at H
    unfold spec_l02Block.s4 at H
    refine sq fun _ hK172=>sr fun _ hK173=>mv hk rfl fun a hk=>sv (.bool (decide (u159<4))) hk rfl rfl rfl fun a hk=>nx hK173 ?_
    rcases cond_some H with ⟨c174,H⟩ | ⟨c174,H⟩
    ·have hk:=hk.lit 57 c174 rfl
     refine cnd_true hk rfl rfl <| wp_skip <| hK172 _ _ ?_
     have hs:=hs.pick [(1,1),(5,5)] rfl
     refine sq fun _ hK175=>wp_block ?_
     apply wp_region_lit
     refine slna (k:=5) hs rfl o157 lh158 rfl hk rfl rfl rfl ag154 sz154 fun a hk=>mv hk rfl fun a hk=>mv hk rfl fun a hk=>sv (vI iS (w64 (4+u159))) hk rfl rfl rfl fun a hk=>mv hk rfl fun a hk=>sv (vI iS (w64 (8+u159))) hk rfl rfl rfl fun a hk=>mv hk rfl fun a hk=>sv (vI iS (w64 (12+u159))) hk rfl rfl rfl fun a hk=>?_
     obtain ⟨y176,h177,H⟩:=bind_some H
     refine sc rfl en130 hk rfl rfl rfl (spec_l02Round_t _ u155 lh158 u159 (w64 (4+u159)) (w64 (8+u159)) (w64 (12+u159)) _ h177) ?_
     rintro _ w ⟨rfl,lh178,hG⟩ a hk
     have hs:=hs.call0 hG
     refine sswa 5 y176 hs rfl o157 lh158 lh178 rfl rfl hk rfl rfl rfl rfl sz154 fun k179 w a hk o180 hs=>nx hK175 ?_
     apply wp_region_lit
     refine mv hk rfl fun a hk=>sv (vI iS (w64 (u159+1))) hk rfl rfl rfl fun a hk=>mv hk rfl fun a hk=>?_
     show wpList _ _ _ [] _ _
     refine wpList_nil ?_
     obtain rfl:=osi H
     obtain ⟨m181,hmm181,h171⟩:=h171
     show ∃ n',n'<_∧I168 n' _ _
     refine ⟨m181,hmm181,?_⟩
     rw [hI168]
     exact ⟨_,_,_,h171,(hk.al rfl),(hs.pick [(1,1),(5,5)] rfl),o180,lh178⟩
    have hk:=hk.lit 57 c174 rfl
    refine cnd_false hk rfl rfl <| wp_exit ?_
    obtain rfl:=osi H
    show R167 _ _
    rw [hR167]
    exact ⟨_,_,h171.symm,(hk.al rfl),(hs.pick [(1,1),(5,5)] rfl),o157,lh158⟩
   intro a w hR0
   rw [hR167] at hR0
   obtain ⟨u160,k161,rfl,hk,hs,o162,lh163⟩:=hR0
   have H:=HL166
   try dsimp only at H
   refine hK151 _ _ <| sr fun _ hK182=>mv hk rfl fun a hk=>nx hK182 ?_
   have hs:=hs.pick [(1,1),(5,5)] rfl
   obtain ⟨o194,h195,HL196⟩:=bind_some H
   clear H
   obtain ⟨R197,hR197⟩:=nm fun a w=>∃ (u190:List Int) (k191:Chunk),o194 = .out u190∧Kn [(7,(vP (some ⟨b4,0,none⟩))),(11,(vP (some ⟨b120,0,none⟩))),(12,(vI iS u134))] 105 a∧Sat [] w0 w [] [(1,k95),(5,k191)]∧Own (Lay.int iS) 154 (some ⟨b120,0,none⟩) 16 u190 k191∧u190.length=16
   refine wp_cutq R197 ?_ ?_
   ·refine wp_block ?_
    obtain ⟨fu199,h195⟩:=loopO_some h195
    obtain ⟨I198,hI198⟩:=nm fun fu a w=>∃ (u185:List Int) (u189:Int) (k186:Chunk),loopN (fun s=>spec_l02Block.s5  s.1 s.2) fu (u185,u189)=some o194∧Kn [(7,(vP (some ⟨b4,0,none⟩))),(11,(vP (some ⟨b120,0,none⟩))),(12,(vI iS u134)),(14,(vI iS u189))] 105 a∧Sat [] w0 w [] [(1,k95),(5,k186)]∧Own (Lay.int iS) 154 (some ⟨b120,0,none⟩) 16 u185 k186∧u185.length=16
    refine wp_loop_ghost I198 fu199 ?_ ?_
    ·rw [hI198]
     exact ⟨_,_,_,h195,(hk.al rfl),(hs.pick [(1,1),(5,5)] rfl),o162,lh163⟩
    clear h195 hk hs
    intro fu199 a w hI0
    rw [hI198] at hI0
    obtain ⟨u185,u189,k186,hi,hk,hs,o187,lh188⟩:=hI0
    obtain ⟨x200,H,h201⟩:=loop_round hi
    try dsimp only at H
    unfold spec_l02Block.s5 at H
    refine sq fun _ hK202=>sr fun _ hK203=>mv hk rfl fun a hk=>sv (.bool (decide (u189<4))) hk rfl rfl rfl fun a hk=>nx hK203 ?_
    rcases cond_some H with ⟨c204,H⟩ | ⟨c204,H⟩
    ·have hk:=hk.lit 70 c204 rfl
     refine cnd_true hk rfl rfl <| wp_skip <| hK202 _ _ <| sq fun _ hK205=>wp_block ?_
     apply wp_region_lit
     refine slna (k:=5) hs rfl o187 lh188 rfl hk rfl rfl rfl ag154 sz154 fun a hk=>mv hk rfl fun a hk=>mv hk rfl fun a hk=>sv (vI iS (w64 (u189+1))) hk rfl rfl rfl fun a hk=>sv (vI iS (Int.tmod (w64 (u189+1)) 4)) hk rfl rfl rfl fun a hk=>sv (vI iS (w64 (4+(Int.tmod (w64 (u189+1)) 4)))) hk rfl rfl rfl fun a hk=>mv hk rfl fun a hk=>sv (vI iS (w64 (u189+2))) hk rfl rfl rfl fun a hk=>sv (vI iS (Int.tmod (w64 (u189+2)) 4)) hk rfl rfl rfl fun a hk=>sv (vI iS (w64 (8+(Int.tmod (w64 (u189+2)) 4)))) hk rfl rfl rfl fun a hk=>mv hk rfl fun a hk=>sv (vI iS (w64 (u189+3))) hk rfl rfl rfl fun a hk=>sv (vI iS (Int.tmod (w64 (u189+3)) 4)) hk rfl rfl rfl fun a hk=>sv (vI iS (w64 (12+(Int.tmod (w64 (u189+3)) 4)))) hk rfl rfl rfl fun a hk=>?_
     obtain ⟨y206,h207,H⟩:=bind_some H
     refine sc rfl en130 hk rfl rfl rfl (spec_l02Round_t _ u185 lh188 u189 (w64 (4+(Int.tmod (w64 (u189+1)) 4))) (w64 (8+(Int.tmod (w64 (u189+2)) 4))) (w64 (12+(Int.tmod (w64 (u189+3)) 4))) _ h207) ?_
     rintro _ w ⟨rfl,lh208,hG⟩ a hk
     have hs:=hs.call0 hG
     refine sswa 5 y206 hs rfl o187 lh188 lh208 rfl rfl hk rfl rfl rfl rfl sz154 fun k209 w a hk o210 hs=>nx hK205 ?_
     apply wp_region_lit
     refine mv hk rfl fun a hk=>sv (vI iS (w64 (u189+1))) hk rfl rfl rfl fun a hk=>mv hk rfl fun a hk=>?_
     show wpList _ _ _ [] _ _
     refine wpList_nil ?_
     obtain rfl:=osi H
     obtain ⟨m211,hmm211,h201⟩:=h201
     show ∃ n',n'<_∧I198 n' _ _
     refine ⟨m211,hmm211,?_⟩
     rw [hI198]
     exact ⟨_,_,_,h201,(hk.al rfl),(hs.pick [(1,1),(5,5)] rfl),o210,lh208⟩
    have hk:=hk.lit 70 c204 rfl
    refine cnd_false hk rfl rfl <| wp_exit ?_
    obtain rfl:=osi H
    show R197 _ _
    rw [hR197]
    exact ⟨_,_,h201.symm,(hk.al rfl),(hs.pick [(1,1),(5,5)] rfl),o187,lh188⟩
   intro a w hR0
   rw [hR197] at hR0
   obtain ⟨u190,k191,rfl,hk,hs,o192,lh193⟩:=hR0
   have H:=HL196
   try dsimp only at H
   refine hK150 _ _ ?_
   apply wp_region_lit
   refine mv hk rfl fun a hk=>sv (vI iS (w64 (u134+1))) hk rfl rfl rfl fun a hk=>mv hk rfl fun a hk=>?_
   show wpList _ _ _ [] _ _
   refine wpList_nil ?_
   obtain rfl:=osi H
   obtain ⟨m212,hmm212,h146⟩:=h146
   show ∃ n',n'<_∧I143 n' _ _
   refine ⟨m212,hmm212,?_⟩
   rw [hI143]
   exact ⟨_,_,_,h146,(hk.al rfl),(hs.pick [(1,1),(5,5)] rfl),o192,lh193⟩
  have hk:=hk.lit 53 c149 rfl
  refine cnd_false hk rfl rfl <| wp_exit ?_
  obtain rfl:=osi H
  show R142 _ _
  rw [hR142]
  exact ⟨_,_,h146.symm,(hk.al rfl),(hs.pick [(1,1),(5,5)] rfl),o132,lh133⟩
 intro a w hR0
 rw [hR142] at hR0
 obtain ⟨u135,k136,rfl,hk,hs,o137,lh138⟩:=hR0
 have H:=HL141
 try dsimp only at H
 refine hK126 _ _ <| sr fun _ hK213=>sbs0 9 (Lay.int iB) hs rfl hk rfl rfl un101 sz5 fun b214 k215 w a hk o216 hs=>mv hk rfl fun a hk=>nx hK213 <| sq fun _ hK217=>sr fun _ hK218=>mv hk rfl fun a hk=>nx hK218 ?_
 obtain ⟨o236,h237,HL238⟩:=bind_some H
 clear H
 obtain ⟨R239,hR239⟩:=nm fun a w=>∃ (u231:List Int) (A234:Option Addr) (p235:Nat) (k232:Chunk),o236 = .out u231∧Kn [(15,(vL A234 u231.length p235))] 105 a∧Sat [] w0 w [] [(9,k232)]∧Own (Lay.int iB) 5 A234 p235 u231 k232
 refine wp_cutq R239 ?_ ?_
 ·refine wp_block ?_
  obtain ⟨fu241,h237⟩:=loopO_some h237
  obtain ⟨I240,hI240⟩:=nm fun fu a w=>∃ (u226:List Int) (u225:Int) (A229:Option Addr) (p230:Nat) (k227:Chunk),loopN (fun s=>spec_l02Block.s6 u94 u135 s.1 s.2) fu (u226,u225)=some o236∧Kn [(7,(vP (some ⟨b4,0,none⟩))),(11,(vP (some ⟨b120,0,none⟩))),(15,(vL A229 u226.length p230)),(16,(vI iS u225))] 105 a∧Sat [] w0 w [] [(1,k95),(5,k136),(9,k227)]∧Own (Lay.int iB) 5 A229 p230 u226 k227
  refine wp_loop_ghost I240 fu241 ?_ ?_
  ·rw [hI240]
   exact ⟨_,_,(some ⟨b214,0,none⟩),0,_,h237,(hk.al rfl),(hs.pick [(1,1),(5,5),(9,9)] rfl),o216⟩
  clear h237 hk hs
  intro fu241 a w hI0
  rw [hI240] at hI0
  obtain ⟨u226,u225,A229,p230,k227,hi,hk,hs,o228⟩:=hI0
  obtain ⟨x242,H,h243⟩:=loop_round hi
  try dsimp only at H
  unfold spec_l02Block.s6 at H
  refine sq fun _ hK244=>sr fun _ hK245=>mv hk rfl fun a hk=>sv (.bool (decide (u225<16))) hk rfl rfl rfl fun a hk=>nx hK245 ?_
  rcases cond_some H with ⟨c246,H⟩ | ⟨c246,H⟩
  ·have hk:=hk.lit 90 c246 rfl
   refine cnd_true hk rfl rfl <| wp_skip <| hK244 _ _ ?_
   have hs:=hs.pick [(1,1),(5,5),(9,9)] rfl
   refine sq fun _ hK247=>wp_block <| wp_region_tree (.q 0 (.q 1 (.q 2 (.q 3 (.alt 4 (.alt 5 (.alt 6 (.alt 7 (.alt 8 (.alt 9 (.last 10) .stop) .stop) .stop) .stop) .stop) .stop))))) mo (by kernel_rfl) (hs.pick [(1,1),(5,5)] rfl) fun _=>?_
   have hs:=hs.drew
   refine tqm hk rfl fun a hk=>tqm hk rfl fun a hk=>?_
   obtain ⟨c249,H⟩:=ite_no H
   obtain ⟨b250,q251,hAc249⟩:=(o137.view).some_ u225 c249.1 (by rw [lh138];exact c249.2)
   refine tqst _ hk rfl rfl rfl rfl (fun w hs=>sia rfl hk rfl rfl rfl rfl un154 sz3 c249.1 c249.2 hAc249 fun a hk=>qe hk) fun a hk=>?_
   obtain ⟨_,rfl,e252⟩:=(o137.view).at_ 0 u225 c249.1 (by rw [lh138];exact c249.2)
   refine tqst _ hk rfl rfl rfl rfl (fun w hs=>sl (v:=(vI iS (u135.getD u225.toNat 0))) rfl hk rfl rfl rfl ag3 ((e252 0 _ rfl).cell (hs.hasG (k:=5) rfl)) fun a hk=>qe hk) fun a hk=>tss hs hk rfl rfl fun _ hK_r248_4 w hs=>mv hk rfl fun a hk=>se (hs.pick [(1,1),(5,5)] rfl) hk (hK_r248_4 _ _ ?_)
   refine tss hs hk rfl rfl fun _ hK_r248_5 w hs=>?_
   obtain ⟨c253,H⟩:=ite_no H
   obtain ⟨b254,q255,hAc253⟩:=(o96.view).some_ u225 c253.1 (by rw [lh97];exact c253.2)
   refine sia rfl hk rfl rfl rfl rfl un154 sz3 c253.1 c253.2 hAc253 fun a hk=>se (hs.pick [(1,1),(5,5)] rfl) hk (hK_r248_5 _ _ ?_)
   refine tss hs hk rfl rfl fun _ hK_r248_6 w hs=>?_
   obtain ⟨_,rfl,e256⟩:=(o96.view).at_ 0 u225 c253.1 (by rw [lh97];exact c253.2)
   refine sl (v:=(vI iS (u94.getD u225.toNat 0))) rfl hk rfl rfl rfl ag3 ((e256 0 _ rfl).cell (hs.hasG (k:=1) rfl)) fun a hk=>se (hs.pick [(1,1),(5,5)] rfl) hk (hK_r248_6 _ _ ?_)
   refine tss hs hk rfl rfl fun _ hK_r248_7 w hs=>sv (vI iS (w64 ((u135.getD u225.toNat 0)+(u94.getD u225.toNat 0)))) hk rfl rfl rfl fun a hk=>se (hs.pick [(1,1),(5,5)] rfl) hk (hK_r248_7 _ _ ?_)
   refine tss hs hk rfl rfl fun _ hK_r248_8 w hs=>sv (vI iS (bia6 (w64 ((u135.getD u225.toNat 0)+(u94.getD u225.toNat 0))) 4294967295)) hk rfl rfl rfl fun a hk=>se (hs.pick [(1,1),(5,5)] rfl) hk (hK_r248_8 _ _ ?_)
   refine tss hs hk rfl rfl fun _ hK_r248_9 w hs=>?_
   obtain ⟨y257,h258,H⟩:=bind_some H
   refine sc rfl en113 hk rfl rfl rfl (spec_l02Bytes_t _ A229 p230 u226 _ o228 (bia6 (w64 ((u135.getD u225.toNat 0)+(u94.getD u225.toNat 0))) 4294967295) ((hs.hand [(1,9)] rfl).dpick [] rfl) _ h258) ?_
   rintro _ w ⟨A259,p260,k261,rfl,o262,hG⟩ a hk
   have hs:=hs.back [(1,9)] rfl hG [12] rfl
   refine se (hs.pick [(1,1),(5,5)] rfl) hk (hK_r248_9 _ _ ?_)
   refine tlst hk rfl rfl fun K_r248_10 hK_r248_10 w hF=>?_
   have hs:=hs.f hF
   refine mv hk rfl fun a hk=>se trivial hk (hK_r248_10 _ _ fun w hF=>?_)
   have hs:=hs.f hF
   refine hK247 _ _ ?_
   apply wp_region_lit
   refine mv hk rfl fun a hk=>sv (vI iS (w64 (u225+1))) hk rfl rfl rfl fun a hk=>mv hk rfl fun a hk=>?_
   show wpList _ _ _ [] _ _
   refine wpList_nil ?_
   obtain rfl:=osi H
   obtain ⟨m263,hmm263,h243⟩:=h243
   show ∃ n',n'<_∧I240 n' _ _
   refine ⟨m263,hmm263,?_⟩
   rw [hI240]
   exact ⟨_,_,A259,p260,_,h243,(hk.al rfl),(hs.pick [(1,1),(5,5),(9,12)] rfl),o262⟩
  have hk:=hk.lit 90 c246 rfl
  refine cnd_false hk rfl rfl <| wp_exit ?_
  obtain rfl:=osi H
  show R239 _ _
  rw [hR239]
  exact ⟨_,A229,p230,_,h243.symm,(hk.al rfl),(hs.pick [(9,9)] rfl),o228⟩
 intro a w hR0
 rw [hR239] at hR0
 obtain ⟨u231,A234,p235,k232,rfl,hk,hs,o233⟩:=hR0
 have H:=HL238
 try dsimp only at H
 refine hK217 _ _ <| sr fun _ hK264=>mv hk rfl fun a hk=>sbt (xs:=u231) rfl hk rfl rfl rfl rfl un101 un5 un9 o233.view (hs.hasG (k:=9) rfl) fun a hk=>mv hk rfl fun a hk=>nx hK264 ?_
 have hs:=hs.pick [] rfl
 refine wp_ret ?_
 obtain rfl:=osi H
 exact fin hk _ [(vS (strOfNums u231))] rfl ⟨rfl,trivial⟩ ⟨rfl,(hs.pick [] rfl).dnil⟩
noncomputable def spec_l02Xor.s0 (x0:ByteArray) (x1:ByteArray) (x2:Int) (x3:ByteArray) (u17:List Int) (u15:ByteArray) (u16:Int):Option (((List Int)×ByteArray×Int) ⊕ Ex ((List Int)) (ByteArray)) :=
  (bif (decide (u16<(x3.size:Int))) then (((bif ((Int.tmod u16 64)==0) then ((spec_l02Block.f x0 x1 (w64 (x2+(wR iS (Int.tdiv u16 64))))).bind fun y48=>(some y48)) else (some u15)):Option (ByteArray)).bind fun u42=>(if 0≤u16∧u16<(x3.size:Int) then (if 0≤(Int.tmod u16 64)∧(Int.tmod u16 64)<(u42.size:Int) then (if u17.length+([(wR iB ((bO 8 (byteAt x3 u16) ^^^ bO 8 (byteAt u42 (Int.tmod u16 64))).toNat:Int))]).length≤1073741824 then (some (.inl ((u17++([(wR iB ((bO 8 (byteAt x3 u16) ^^^ bO 8 (byteAt u42 (Int.tmod u16 64))).toNat:Int))])),u42,(w64 (u16+1))))) else none) else none) else none)) else (some (.inr (.out u17))))
noncomputable def spec_l02Xor.f (x0:ByteArray) (x1:ByteArray) (x2:Int) (x3:ByteArray):Option (ByteArray) :=
  ((loopO (fun s=>spec_l02Xor.s0 x0 x1 x2 x3 s.1 s.2.1 s.2.2) (([]:List Int),(⟨#[]⟩:ByteArray),0)).bind fun o=>match o with | .out u22=>(some (strOfNums u22)) | .ret r=>(some r))
theorem spec_l02Xor_t (w0:World) (x0:ByteArray) (x1:ByteArray) (x2:Int) (x3:ByteArray) (r:ByteArray) (H:spec_l02Xor.f x0 x1 x2 x3=some r) :
    Calls Tryz.prog 90 #[vS x0,vS x1,vI iS x2,vS x3] w0 (Ret (fun v w=>v=vS r∧Sat [] w0 w [] [])):=by
 have hs:=sat0 w0 [] (by simp)
 unfold spec_l02Xor.f at H
 refine enter Tryz.func90 rfl Tryz.ntmps90 rfl fun a hk=>sr fun _ hK1=>mv hk rfl fun a hk=>nx hK1 <| sr fun _ hK2=>sbs0 1 (Lay.int iB) hs rfl hk rfl rfl un101 sz5 fun b3 k4 w a hk o5 hs=>mv hk rfl fun a hk=>nx hK2 <| sr fun _ hK6=>mv hk rfl fun a hk=>nx hK6 <| sq fun _ hK7=>sr fun _ hK8=>mv hk rfl fun a hk=>nx hK8 ?_
 obtain ⟨o27,h28,HL29⟩:=bind_some H
 clear H
 obtain ⟨R30,hR30⟩:=nm fun a w=>∃ (u22:List Int) (A25:Option Addr) (p26:Nat) (k23:Chunk),o27 = .out u22∧Kn [(9,(vL A25 u22.length p26))] 42 a∧Sat [] w0 w [] [(1,k23)]∧Own (Lay.int iB) 5 A25 p26 u22 k23
 refine wp_cutq R30 ?_ ?_
 ·refine wp_block ?_
  obtain ⟨fu32,h28⟩:=loopO_some h28
  obtain ⟨I31,hI31⟩:=nm fun fu a w=>∃ (u17:List Int) (u15:ByteArray) (u16:Int) (A20:Option Addr) (p21:Nat) (k18:Chunk),loopN (fun s=>spec_l02Xor.s0 x0 x1 x2 x3 s.1 s.2.1 s.2.2) fu (u17,u15,u16)=some o27∧Kn [(0,(vS x0)),(1,(vS x1)),(2,(vI iS x2)),(3,(vS x3)),(9,(vL A20 u17.length p21)),(10,(vS u15)),(11,(vI iS u16))] 42 a∧Sat [] w0 w [] [(1,k18)]∧Own (Lay.int iB) 5 A20 p21 u17 k18
  refine wp_loop_ghost I31 fu32 ?_ ?_
  ·rw [hI31]
   exact ⟨_,_,_,(some ⟨b3,0,none⟩),0,_,h28,(hk.al rfl),(hs.pick [(1,1)] rfl),o5⟩
  clear h28 hk hs
  intro fu32 a w hI0
  rw [hI31] at hI0
  obtain ⟨u17,u15,u16,A20,p21,k18,hi,hk,hs,o19⟩:=hI0
  obtain ⟨x33,H,h34⟩:=loop_round hi
  try dsimp only at H
  unfold spec_l02Xor.s0 at H
  refine sq fun _ hK35=>sr fun _ hK36=>mv hk rfl fun a hk=>mv hk rfl fun a hk=>sles rfl hk rfl rfl rfl un9 fun a hk=>sv (.bool (decide (u16<(x3.size:Int)))) hk rfl rfl rfl fun a hk=>nx hK36 ?_
  rcases cond_some H with ⟨c37,H⟩ | ⟨c37,H⟩
  ·have hk:=hk.lit 16 c37 rfl
   refine cnd_true hk rfl rfl <| wp_skip <| hK35 _ _ <| sq fun _ hK38=>wp_block ?_
   refine sq fun _ hK39=>sr fun _ hK40=>mv hk rfl fun a hk=>sv (vI iS (Int.tmod u16 64)) hk rfl rfl rfl fun a hk=>sv (.bool ((Int.tmod u16 64)==0)) hk rfl rfl rfl fun a hk=>nx hK40 ?_
   obtain ⟨o43,h44,HL45⟩:=bind_some H
   clear H
   obtain ⟨R46,hR46⟩:=nm fun a w=>∃ (u42:ByteArray),u42=o43∧Kn [(0,(vS x0)),(1,(vS x1)),(2,(vI iS x2)),(3,(vS x3)),(9,(vL A20 u17.length p21)),(10,(vS u42)),(11,(vI iS u16))] 42 a∧Sat [] w0 w [] [(1,k18)]
   refine wp_cutq R46 ?_ ?_
   ·have H:=h44
    rcases cond_some H with ⟨c47,H⟩ | ⟨c47,H⟩
    ·have hk:=hk.lit 21 c47 rfl
     refine cnd_true hk rfl rfl ?_
     apply wp_region_lit
     refine mv hk rfl fun a hk=>mv hk rfl fun a hk=>mv hk rfl fun a hk=>mv hk rfl fun a hk=>sv (vI iS (wR iS (Int.tdiv u16 64))) hk rfl rfl rfl fun a hk=>sv (vI iS (w64 (x2+(wR iS (Int.tdiv u16 64))))) hk rfl rfl rfl fun a hk=>?_
     obtain ⟨y48,h49,H⟩:=bind_some H
     refine sc rfl en110 hk rfl rfl rfl (spec_l02Block_t _ x0 x1 (w64 (x2+(wR iS (Int.tdiv u16 64)))) _ h49) ?_
     rintro _ w ⟨rfl,hG⟩ a hk
     have hs:=hs.call0 hG
     refine mv hk rfl fun a hk=>?_
     show wpList _ _ _ [] _ _
     refine wpList_nil ?_
     obtain rfl:=osi H
     show R46 _ _
     rw [hR46]
     exact ⟨y48,rfl,(hk.al rfl),(hs.pick [(1,1)] rfl)⟩
    have hk:=hk.lit 21 c47 rfl
    refine cnd_false hk rfl rfl <| wp_skip ?_
    obtain rfl:=osi H
    show R46 _ _
    rw [hR46]
    exact ⟨u15,rfl,(hk.al rfl),(hs.pick [(1,1)] rfl)⟩
   intro a w hR0
   rw [hR46] at hR0
   obtain ⟨u42,rfl,hk,hs⟩:=hR0
   have H:=HL45
   try dsimp only at H
   refine hK39 _ _ ?_
   have hs:=hs.pick [(1,1)] rfl
   refine wp_region_tree (.q 0 (.q 1 (.q 2 (.q 3 (.q 4 (.alt 5 (.alt 6 (.alt 7 (.alt 8 (.alt 9 (.alt 10 (.last 11) .stop) .stop) .stop) .stop) .stop) .stop)))))) mo (by kernel_rfl) (hs.pick [] rfl) fun _=>?_
   have hs:=hs.drew
   refine tqm hk rfl fun a hk=>tqm hk rfl fun a hk=>tqm hk rfl fun a hk=>?_
   obtain ⟨c51,H⟩:=ite_no H
   refine tqst _ hk rfl rfl rfl rfl (fun w hs=>six rfl hk rfl rfl rfl rfl un9 c51.1 c51.2 fun a hk=>qe hk) fun a hk=>tqm hk rfl fun a hk=>tss hs hk rfl rfl fun _ hK_r50_5 w hs=>mv hk rfl fun a hk=>se (hs.pick [] rfl) hk (hK_r50_5 _ _ ?_)
   refine tss hs hk rfl rfl fun _ hK_r50_6 w hs=>sv (vI iS (Int.tmod u16 64)) hk rfl rfl rfl fun a hk=>se (hs.pick [] rfl) hk (hK_r50_6 _ _ ?_)
   refine tss hs hk rfl rfl fun _ hK_r50_7 w hs=>?_
   obtain ⟨c52,H⟩:=ite_no H
   refine six rfl hk rfl rfl rfl rfl un9 c52.1 c52.2 fun a hk=>se (hs.pick [] rfl) hk (hK_r50_7 _ _ ?_)
   refine tss hs hk rfl rfl fun _ hK_r50_8 w hs=>sv (vI iB (bix1 (byteAt x3 u16) (byteAt u42 (Int.tmod u16 64)))) hk rfl rfl rfl fun a hk=>se (hs.pick [] rfl) hk (hK_r50_8 _ _ ?_)
   refine tss hs hk rfl rfl fun _ hK_r50_9 w hs=>sbs (L:=(Lay.int iB)) (pv:=[(0,(vI iB (bix1 (byteAt x3 u16) (byteAt u42 (Int.tmod u16 64)))))]) (xs:=[(bix1 (byteAt x3 u16) (byteAt u42 (Int.tmod u16 64)))]) (ess:=[[vI iB (bix1 (byteAt x3 u16) (byteAt u42 (Int.tmod u16 64)))]]) 5 hs rfl hk rfl rfl rfl un101 (bs5_4 (bix1 (byteAt x3 u16) (byteAt u42 (Int.tmod u16 64)))) (AllOwn.cons0 ⟨rfl,rfl⟩ AllOwn.nil) rfl rfl rfl fun b53 k54 w a hk o55 hs=>se (hs.pick [] rfl) hk (hK_r50_9 _ _ ?_)
   refine tss hs hk rfl rfl fun _ hK_r50_10 w hs=>?_
   obtain ⟨c56,H⟩:=ite_no H
   refine sap 1 (xs:=u17) (ys:=[(bix1 (byteAt x3 u16) (byteAt u42 (Int.tmod u16 64)))]) (flat_flat:((Lay.int iB)).Flat) hs rfl o19 o55.view (hs.hasG (k:=5) rfl) rfl hk rfl rfl rfl rfl rfl rfl un101 mk5 rfl rfl rfl c56 fun A57 p58 k59 w a hk o60 hs=>se (hs.pick [] rfl) hk (hK_r50_10 _ _ ?_)
   refine tlst hk rfl rfl fun K_r50_11 hK_r50_11 w hF=>?_
   have hs:=hs.f hF
   refine mv hk rfl fun a hk=>se trivial hk (hK_r50_11 _ _ fun w hF=>?_)
   have hs:=hs.f hF
   refine hK38 _ _ ?_
   apply wp_region_lit
   refine mv hk rfl fun a hk=>sv (vI iS (w64 (u16+1))) hk rfl rfl rfl fun a hk=>mv hk rfl fun a hk=>?_
   show wpList _ _ _ [] _ _
   refine wpList_nil ?_
   obtain rfl:=osi H
   obtain ⟨m61,hmm61,h34⟩:=h34
   show ∃ n',n'<_∧I31 n' _ _
   refine ⟨m61,hmm61,?_⟩
   rw [hI31]
   exact ⟨_,_,_,A57,p58,_,h34,(hk.al rfl),(hs.pick [(1,1)] rfl),o60⟩
  have hk:=hk.lit 16 c37 rfl
  refine cnd_false hk rfl rfl <| wp_exit ?_
  obtain rfl:=osi H
  show R30 _ _
  rw [hR30]
  exact ⟨_,A20,p21,_,h34.symm,(hk.al rfl),(hs.pick [(1,1)] rfl),o19⟩
 intro a w hR0
 rw [hR30] at hR0
 obtain ⟨u22,A25,p26,k23,rfl,hk,hs,o24⟩:=hR0
 have H:=HL29
 try dsimp only at H
 refine hK7 _ _ <| sr fun _ hK62=>mv hk rfl fun a hk=>sbt (xs:=u22) rfl hk rfl rfl rfl rfl un101 un5 un9 o24.view (hs.hasG (k:=1) rfl) fun a hk=>mv hk rfl fun a hk=>nx hK62 <| wp_ret ?_
 obtain rfl:=osi H
 exact fin hk _ [(vS (strOfNums u22))] rfl ⟨rfl,trivial⟩ ⟨rfl,(hs.pick [] rfl).dnil⟩
noncomputable def spec_l03Parts.s0 (x0:ByteArray) (u18:List Int) (u22:Int):Option (((List Int)×Int) ⊕ Ex ((List Int)) ((List Int))) :=
  (bif (decide (u22<17)) then (if 0≤u22∧u22<(x0.size:Int) then (if 0≤(wR iS (Int.tdiv (w64 (8*u22)) 26))∧(wR iS (Int.tdiv (w64 (8*u22)) 26))<(5:Int) then (if 0≤(Int.tmod (w64 (8*u22)) 26) then (if 0≤(wR iS (Int.tdiv (w64 (8*u22)) 26))∧(wR iS (Int.tdiv (w64 (8*u22)) 26))<(5:Int) then (((bif (decide ((Int.tmod (w64 (8*u22)) 26)>18)) then (some (decide ((wR iS (Int.tdiv (w64 (8*u22)) 26))<4))) else (some false)):Option (Bool)).bind fun u57=>(((bif u57 then (if 0≤(w64 ((wR iS (Int.tdiv (w64 (8*u22)) 26))+1))∧(w64 ((wR iS (Int.tdiv (w64 (8*u22)) 26))+1))<(5:Int) then (if 0≤(w64 (26-(Int.tmod (w64 (8*u22)) 26))) then (if 0≤(w64 ((wR iS (Int.tdiv (w64 (8*u22)) 26))+1))∧(w64 ((wR iS (Int.tdiv (w64 (8*u22)) 26))+1))<(5:Int) then (some ((u18.set (wR iS (Int.tdiv (w64 (8*u22)) 26)).toNat (w64 ((u18.getD (wR iS (Int.tdiv (w64 (8*u22)) 26)).toNat 0)+(wR iS ((bO 64 (wR iS ((wR iS (byteAt x0 u22))*2 ^ min (Int.tmod (w64 (8*u22)) 26).toNat 64)) &&& bO 64 67108863).toNat:Int))))).set (w64 ((wR iS (Int.tdiv (w64 (8*u22)) 26))+1)).toNat (w64 (((u18.set (wR iS (Int.tdiv (w64 (8*u22)) 26)).toNat (w64 ((u18.getD (wR iS (Int.tdiv (w64 (8*u22)) 26)).toNat 0)+(wR iS ((bO 64 (wR iS ((wR iS (byteAt x0 u22))*2 ^ min (Int.tmod (w64 (8*u22)) 26).toNat 64)) &&& bO 64 67108863).toNat:Int))))).getD (w64 ((wR iS (Int.tdiv (w64 (8*u22)) 26))+1)).toNat 0)+(Int.fdiv (wR iS (byteAt x0 u22)) (2 ^ min (w64 (26-(Int.tmod (w64 (8*u22)) 26))).toNat 64)))))) else none) else none) else none) else (some (u18.set (wR iS (Int.tdiv (w64 (8*u22)) 26)).toNat (w64 ((u18.getD (wR iS (Int.tdiv (w64 (8*u22)) 26)).toNat 0)+(wR iS ((bO 64 (wR iS ((wR iS (byteAt x0 u22))*2 ^ min (Int.tmod (w64 (8*u22)) 26).toNat 64)) &&& bO 64 67108863).toNat:Int))))))):Option ((List Int))).bind fun u64=>(some (.inl (u64,(w64 (u22+1))))))) else none) else none) else none) else none) else (some (.inr (.out u18))))
noncomputable def spec_l03Parts.f (x0:ByteArray):Option ((List Int)) :=
  ((loopO (fun s=>spec_l03Parts.s0 x0 s.1 s.2) ((List.replicate 5 (0:Int)),0)).bind fun o=>match o with | .out u23=>(some u23) | .ret r=>(some r))
theorem spec_l03Parts_t (w0:World) (x0:ByteArray) (r:(List Int)) (H:spec_l03Parts.f x0=some r) :
    Calls Tryz.prog 131 #[vS x0] w0 (Ret (fun v w=>v=aggI .i64 r∧r.length=5∧Sat [] w0 w [] [])):=by
 have hs:=sat0 w0 [] (by simp)
 unfold spec_l03Parts.f at H
 refine enter Tryz.func131 rfl Tryz.ntmps131 rfl fun a hk=>sr fun _ hK1=>sala 1 ((Lay.int iS)) (m:=5) (z:=0) (zc:=[vI iS 0]) hs rfl hk rfl rfl ze156 (by exact ⟨rfl,rfl⟩) rfl rfl rfl fun b2 k3 w a hk o4 hs=>?_
 have lh5:(List.replicate 5 (0:Int)).length=5:=List.length_replicate
 refine nx hK1 <| sr fun _ hK6=>sbd (pv:=[]) rfl hk rfl rfl rfl bd156_8 fun a hk=>?_
 have lh7:(List.replicate 5 (0:Int)).length=5:=List.length_replicate
 refine sala 2 ((Lay.int iS)) (m:=5) (z:=0) (zc:=[vI iS 0]) hs rfl hk rfl rfl ze156 (by exact ⟨rfl,rfl⟩) rfl rfl rfl fun b8 k9 w a hk o10 hs=>?_
 have lh11:(List.replicate 5 (0:Int)).length=5:=List.length_replicate
 refine sswa 2 (List.replicate 5 (0:Int)) hs rfl o10 lh11 lh7 rfl rfl hk rfl rfl rfl rfl sz156 fun k12 w a hk o13 hs=>nx hK6 <| sq fun _ hK14=>sr fun _ hK15=>mv hk rfl fun a hk=>nx hK15 ?_
 obtain ⟨o27,h28,HL29⟩:=bind_some H
 clear H
 obtain ⟨R30,hR30⟩:=nm fun a w=>∃ (u23:List Int) (k24:Chunk),o27 = .out u23∧Kn [(2,(vP (some ⟨b2,0,none⟩))),(3,(vP (some ⟨b8,0,none⟩)))] 50 a∧Sat [] w0 w [] [(1,k3),(2,k24)]∧Own (Lay.int iS) 156 (some ⟨b8,0,none⟩) 5 u23 k24∧u23.length=5
 refine wp_cutq R30 ?_ ?_
 ·refine wp_block ?_
  obtain ⟨fu32,h28⟩:=loopO_some h28
  obtain ⟨I31,hI31⟩:=nm fun fu a w=>∃ (u18:List Int) (u22:Int) (k19:Chunk),loopN (fun s=>spec_l03Parts.s0 x0 s.1 s.2) fu (u18,u22)=some o27∧Kn [(0,(vS x0)),(2,(vP (some ⟨b2,0,none⟩))),(3,(vP (some ⟨b8,0,none⟩))),(4,(vI iS u22))] 50 a∧Sat [] w0 w [] [(1,k3),(2,k19)]∧Own (Lay.int iS) 156 (some ⟨b8,0,none⟩) 5 u18 k19∧u18.length=5
  refine wp_loop_ghost I31 fu32 ?_ ?_
  ·rw [hI31]
   exact ⟨_,_,_,h28,(hk.al rfl),(hs.pick [(1,1),(2,2)] rfl),o13,lh7⟩
  clear h28 hk hs
  intro fu32 a w hI0
  rw [hI31] at hI0
  obtain ⟨u18,u22,k19,hi,hk,hs,o20,lh21⟩:=hI0
  obtain ⟨x33,H,h34⟩:=loop_round hi
  try dsimp only at H
  unfold spec_l03Parts.s0 at H
  refine sq fun _ hK35=>sr fun _ hK36=>mv hk rfl fun a hk=>sv (.bool (decide (u22<17))) hk rfl rfl rfl fun a hk=>nx hK36 ?_
  rcases cond_some H with ⟨c37,H⟩ | ⟨c37,H⟩
  ·have hk:=hk.lit 9 c37 rfl
   refine cnd_true hk rfl rfl <| wp_skip <| hK35 _ _ <| sq fun _ hK38=>wp_block ?_
   refine sr fun _ hK39=>mv hk rfl fun a hk=>sv (vI iS (w64 (8*u22))) hk rfl rfl rfl fun a hk=>mv hk rfl fun a hk=>nx hK39 <| sr fun _ hK40=>mv hk rfl fun a hk=>mv hk rfl fun a hk=>?_
   obtain ⟨c41,H⟩:=ite_no H
   refine six rfl hk rfl rfl rfl rfl un9 c41.1 c41.2 fun a hk=>scn rfl hk rfl rfl rfl un3 un5 fun a hk=>mv hk rfl fun a hk=>nx hK40 <| sq fun _ hK42=>wp_region_tree (.q 0 (.q 1 (.q 2 (.q 3 (.q 4 (.alt 5 (.alt 6 (.alt 7 (.alt 8 (.alt 9 (.alt 10 (.last 11) .stop) .stop) .stop) .stop) .stop) .stop)))))) mo (by kernel_rfl) (hs.pick [(1,1),(2,2)] rfl) fun _=>?_
   have hs:=hs.drew
   refine tqm hk rfl fun a hk=>tqv (vI iS (wR iS (Int.tdiv (w64 (8*u22)) 26))) hk rfl rfl (fun _=>rfl) fun a hk=>?_
   obtain ⟨c44,H⟩:=ite_no H
   obtain ⟨b45,q46,hAc44⟩:=(o20.view).some_ (wR iS (Int.tdiv (w64 (8*u22)) 26)) c44.1 (by rw [lh21];exact c44.2)
   refine tqst _ hk rfl rfl rfl rfl (fun w hs=>sia rfl hk rfl rfl rfl rfl un156 sz3 c44.1 c44.2 hAc44 fun a hk=>qe hk) fun a hk=>?_
   obtain ⟨_,rfl,e47⟩:=(o20.view).at_ 0 (wR iS (Int.tdiv (w64 (8*u22)) 26)) c44.1 (by rw [lh21];exact c44.2)
   refine tqst _ hk rfl rfl rfl rfl (fun w hs=>sl (v:=(vI iS (u18.getD (wR iS (Int.tdiv (w64 (8*u22)) 26)).toNat 0))) rfl hk rfl rfl rfl ag3 ((e47 0 _ rfl).cell (hs.hasG (k:=2) rfl)) fun a hk=>qe hk) fun a hk=>tqm hk rfl fun a hk=>tss hs hk rfl rfl fun _ hK_r43_5 w hs=>mv hk rfl fun a hk=>se (hs.pick [(1,1),(2,2)] rfl) hk (hK_r43_5 _ _ ?_)
   refine tss hs hk rfl rfl fun _ hK_r43_6 w hs=>sv (vI iS (Int.tmod (w64 (8*u22)) 26)) hk rfl rfl rfl fun a hk=>se (hs.pick [(1,1),(2,2)] rfl) hk (hK_r43_6 _ _ ?_)
   refine tss hs hk rfl rfl fun _ hK_r43_7 w hs=>?_
   obtain ⟨c48,H⟩:=ite_no H
   refine ssh rfl hk rfl rfl rfl rfl c48 fun a hk=>se (hs.pick [(1,1),(2,2)] rfl) hk (hK_r43_7 _ _ ?_)
   refine tss hs hk rfl rfl fun _ hK_r43_8 w hs=>sv (vI iS (bia6 (wR iS ((wR iS (byteAt x0 u22))*2 ^ min (Int.tmod (w64 (8*u22)) 26).toNat 64)) 67108863)) hk rfl rfl rfl fun a hk=>se (hs.pick [(1,1),(2,2)] rfl) hk (hK_r43_8 _ _ ?_)
   refine tss hs hk rfl rfl fun _ hK_r43_9 w hs=>sv (vI iS (w64 ((u18.getD (wR iS (Int.tdiv (w64 (8*u22)) 26)).toNat 0)+(bia6 (wR iS ((wR iS (byteAt x0 u22))*2 ^ min (Int.tmod (w64 (8*u22)) 26).toNat 64)) 67108863)))) hk rfl rfl rfl fun a hk=>se (hs.pick [(1,1),(2,2)] rfl) hk (hK_r43_9 _ _ ?_)
   refine tss hs hk rfl rfl fun _ hK_r43_10 w hs=>?_
   obtain ⟨c49,H⟩:=ite_no H
   obtain ⟨b50,q51,hAc49⟩:=(o20.view).some_ (wR iS (Int.tdiv (w64 (8*u22)) 26)) c49.1 (by rw [lh21];exact c49.2)
   refine sia rfl hk rfl rfl rfl rfl un156 sz3 c49.1 c49.2 hAc49 fun a hk=>se (hs.pick [(1,1),(2,2)] rfl) hk (hK_r43_10 _ _ ?_)
   refine tlst hk rfl rfl fun K_r43_11 hK_r43_11 w hF=>?_
   have hs:=hs.f hF
   refine so (j:=0) 2 0 (w64 ((u18.getD (wR iS (Int.tdiv (w64 (8*u22)) 26)).toNat 0)+(bia6 (wR iS ((wR iS (byteAt x0 u22))*2 ^ min (Int.tmod (w64 (8*u22)) 26).toNat 64)) 67108863))) hs rfl o20 c49.1 (by rw [lh21];exact c49.2) rfl hk rfl rfl rfl rfl rfl sz3 (by simp [Value.cells,Value.oneCell']) (Nat.le_of_ble_eq_true rfl) (fun _ _ h=>⟨by rw [h.1];rfl,h.2⟩) fun k52 w a hk o53 hs=>?_
   have lh54:(u18.set (wR iS (Int.tdiv (w64 (8*u22)) 26)).toNat (w64 ((u18.getD (wR iS (Int.tdiv (w64 (8*u22)) 26)).toNat 0)+(bia6 (wR iS ((wR iS (byteAt x0 u22))*2 ^ min (Int.tmod (w64 (8*u22)) 26).toNat 64)) 67108863)))).length=5:=by rw [List.length_set];exact lh21
   refine se trivial hk (hK_r43_11 _ _ fun w hF=>?_)
   have hs:=hs.f hF
   refine hK42 _ _ ?_
   have hs:=hs.pick [(1,1),(2,2)] rfl
   refine sq fun _ hK55=>?_
   obtain ⟨o58,h59,HL60⟩:=bind_some H
   clear H
   obtain ⟨R61,hR61⟩:=nm fun a w=>∃ (u57:Bool),u57=o58∧Kn [(0,(vS x0)),(2,(vP (some ⟨b2,0,none⟩))),(3,(vP (some ⟨b8,0,none⟩))),(4,(vI iS u22)),(5,(vI iS (w64 (8*u22)))),(6,(vI iS (wR iS (byteAt x0 u22)))),(36,(.bool u57))] 50 a∧Sat [] w0 w [] [(1,k3),(2,k52)]
   refine wp_cutq R61 ?_ ?_
   ·have H:=h59
    apply wp_region_lit
    refine mv hk rfl fun a hk=>sv (vI iS (Int.tmod (w64 (8*u22)) 26)) hk rfl rfl rfl fun a hk=>sv (.bool (decide ((Int.tmod (w64 (8*u22)) 26)>18))) hk rfl rfl rfl fun a hk=>mv hk rfl fun a hk=>?_
    rcases cond_some H with ⟨c62,H⟩ | ⟨c62,H⟩
    ·have hk:=hk.lit 32 c62 rfl
     refine mv hk rfl fun a hk=>sv (vI iS (wR iS (Int.tdiv (w64 (8*u22)) 26))) hk rfl rfl rfl fun a hk=>sv (.bool (decide ((wR iS (Int.tdiv (w64 (8*u22)) 26))<4))) hk rfl rfl rfl fun a hk=>sv (.bool (decide ((wR iS (Int.tdiv (w64 (8*u22)) 26))<4))) hk rfl rfl rfl fun a hk=>?_
     show wpList _ _ _ [] _ _
     refine wpList_nil ?_
     obtain rfl:=osi H
     show R61 _ _
     rw [hR61]
     exact ⟨(decide ((wR iS (Int.tdiv (w64 (8*u22)) 26))<4)),rfl,(hk.al rfl),(hs.pick [(1,1),(2,2)] rfl)⟩
    have hk:=hk.lit 32 c62 rfl
    refine sk hk rfl rfl rfl fun a hk=>sk hk rfl rfl rfl fun a hk=>sk hk rfl rfl rfl fun a hk=>sv (.bool false) hk rfl rfl rfl fun a hk=>?_
    show wpList _ _ _ [] _ _
    refine wpList_nil ?_
    obtain rfl:=osi H
    show R61 _ _
    rw [hR61]
    exact ⟨false,rfl,(hk.al rfl),(hs.pick [(1,1),(2,2)] rfl)⟩
   intro a w hR0
   rw [hR61] at hR0
   obtain ⟨u57,rfl,hk,hs⟩:=hR0
   have H:=HL60
   try dsimp only at H
   refine hK55 _ _ ?_
   obtain ⟨o68,h69,HL70⟩:=bind_some H
   clear H
   obtain ⟨R71,hR71⟩:=nm fun a w=>∃ (u64:List Int) (k65:Chunk),u64=o68∧Kn [(0,(vS x0)),(2,(vP (some ⟨b2,0,none⟩))),(3,(vP (some ⟨b8,0,none⟩))),(4,(vI iS u22))] 50 a∧Sat [] w0 w [] [(1,k3),(2,k65)]∧Own (Lay.int iS) 156 (some ⟨b8,0,none⟩) 5 u64 k65∧u64.length=5
   refine wp_cutq R71 ?_ ?_
   ·have H:=h69
    rcases cond_some H with ⟨c72,H⟩ | ⟨c72,H⟩
    ·have hk:=hk.lit 36 c72 rfl
     refine cnd_true hk rfl rfl <| wp_region_tree (.q 0 (.q 1 (.q 2 (.q 3 (.q 4 (.q 5 (.alt 6 (.alt 7 (.alt 8 (.alt 9 (.alt 10 (.alt 11 (.last 12) .stop) .stop) .stop) .stop) .stop) .stop))))))) mo (by kernel_rfl) (hs.pick [(1,1),(2,2)] rfl) fun _=>?_
     have hs:=hs.drew
     refine tqm hk rfl fun a hk=>tqv (vI iS (wR iS (Int.tdiv (w64 (8*u22)) 26))) hk rfl rfl (fun _=>rfl) fun a hk=>tqv (vI iS (w64 ((wR iS (Int.tdiv (w64 (8*u22)) 26))+1))) hk rfl rfl (fun _=>rfl) fun a hk=>?_
     obtain ⟨c74,H⟩:=ite_no H
     obtain ⟨b75,q76,hAc74⟩:=(o53.view).some_ (w64 ((wR iS (Int.tdiv (w64 (8*u22)) 26))+1)) c74.1 (by rw [lh54];exact c74.2)
     refine tqst _ hk rfl rfl rfl rfl (fun w hs=>sia rfl hk rfl rfl rfl rfl un156 sz3 c74.1 c74.2 hAc74 fun a hk=>qe hk) fun a hk=>?_
     obtain ⟨_,rfl,e77⟩:=(o53.view).at_ 0 (w64 ((wR iS (Int.tdiv (w64 (8*u22)) 26))+1)) c74.1 (by rw [lh54];exact c74.2)
     refine tqst _ hk rfl rfl rfl rfl (fun w hs=>sl (v:=(vI iS ((u18.set (wR iS (Int.tdiv (w64 (8*u22)) 26)).toNat (w64 ((u18.getD (wR iS (Int.tdiv (w64 (8*u22)) 26)).toNat 0)+(bia6 (wR iS ((wR iS (byteAt x0 u22))*2 ^ min (Int.tmod (w64 (8*u22)) 26).toNat 64)) 67108863)))).getD (w64 ((wR iS (Int.tdiv (w64 (8*u22)) 26))+1)).toNat 0))) rfl hk rfl rfl rfl ag3 ((e77 0 _ rfl).cell (hs.hasG (k:=2) rfl)) fun a hk=>qe hk) fun a hk=>tqm hk rfl fun a hk=>tss hs hk rfl rfl fun _ hK_r73_6 w hs=>mv hk rfl fun a hk=>se (hs.pick [(1,1),(2,2)] rfl) hk (hK_r73_6 _ _ ?_)
     refine tss hs hk rfl rfl fun _ hK_r73_7 w hs=>sv (vI iS (Int.tmod (w64 (8*u22)) 26)) hk rfl rfl rfl fun a hk=>se (hs.pick [(1,1),(2,2)] rfl) hk (hK_r73_7 _ _ ?_)
     refine tss hs hk rfl rfl fun _ hK_r73_8 w hs=>sv (vI iS (w64 (26-(Int.tmod (w64 (8*u22)) 26)))) hk rfl rfl rfl fun a hk=>se (hs.pick [(1,1),(2,2)] rfl) hk (hK_r73_8 _ _ ?_)
     refine tss hs hk rfl rfl fun _ hK_r73_9 w hs=>?_
     obtain ⟨c78,H⟩:=ite_no H
     refine ssr rfl hk rfl rfl rfl rfl c78 fun a hk=>se (hs.pick [(1,1),(2,2)] rfl) hk (hK_r73_9 _ _ ?_)
     refine tss hs hk rfl rfl fun _ hK_r73_10 w hs=>sv (vI iS (w64 (((u18.set (wR iS (Int.tdiv (w64 (8*u22)) 26)).toNat (w64 ((u18.getD (wR iS (Int.tdiv (w64 (8*u22)) 26)).toNat 0)+(bia6 (wR iS ((wR iS (byteAt x0 u22))*2 ^ min (Int.tmod (w64 (8*u22)) 26).toNat 64)) 67108863)))).getD (w64 ((wR iS (Int.tdiv (w64 (8*u22)) 26))+1)).toNat 0)+(Int.fdiv (wR iS (byteAt x0 u22)) (2 ^ min (w64 (26-(Int.tmod (w64 (8*u22)) 26))).toNat 64))))) hk rfl rfl rfl fun a hk=>se (hs.pick [(1,1),(2,2)] rfl) hk (hK_r73_10 _ _ ?_)
     refine tss hs hk rfl rfl fun _ hK_r73_11 w hs=>?_
     obtain ⟨c79,H⟩:=ite_no H
     obtain ⟨b80,q81,hAc79⟩:=(o53.view).some_ (w64 ((wR iS (Int.tdiv (w64 (8*u22)) 26))+1)) c79.1 (by rw [lh54];exact c79.2)
     refine sia rfl hk rfl rfl rfl rfl un156 sz3 c79.1 c79.2 hAc79 fun a hk=>se (hs.pick [(1,1),(2,2)] rfl) hk (hK_r73_11 _ _ ?_)
     refine tlst hk rfl rfl fun K_r73_12 hK_r73_12 w hF=>?_
     have hs:=hs.f hF
     refine so (j:=0) 2 0 (w64 (((u18.set (wR iS (Int.tdiv (w64 (8*u22)) 26)).toNat (w64 ((u18.getD (wR iS (Int.tdiv (w64 (8*u22)) 26)).toNat 0)+(bia6 (wR iS ((wR iS (byteAt x0 u22))*2 ^ min (Int.tmod (w64 (8*u22)) 26).toNat 64)) 67108863)))).getD (w64 ((wR iS (Int.tdiv (w64 (8*u22)) 26))+1)).toNat 0)+(Int.fdiv (wR iS (byteAt x0 u22)) (2 ^ min (w64 (26-(Int.tmod (w64 (8*u22)) 26))).toNat 64)))) hs rfl o53 c79.1 (by rw [lh54];exact c79.2) rfl hk rfl rfl rfl rfl rfl sz3 (by simp [Value.cells,Value.oneCell']) (Nat.le_of_ble_eq_true rfl) (fun _ _ h=>⟨by rw [h.1];rfl,h.2⟩) fun k82 w a hk o83 hs=>?_
     have lh84:((u18.set (wR iS (Int.tdiv (w64 (8*u22)) 26)).toNat (w64 ((u18.getD (wR iS (Int.tdiv (w64 (8*u22)) 26)).toNat 0)+(bia6 (wR iS ((wR iS (byteAt x0 u22))*2 ^ min (Int.tmod (w64 (8*u22)) 26).toNat 64)) 67108863)))).set (w64 ((wR iS (Int.tdiv (w64 (8*u22)) 26))+1)).toNat (w64 (((u18.set (wR iS (Int.tdiv (w64 (8*u22)) 26)).toNat (w64 ((u18.getD (wR iS (Int.tdiv (w64 (8*u22)) 26)).toNat 0)+(bia6 (wR iS ((wR iS (byteAt x0 u22))*2 ^ min (Int.tmod (w64 (8*u22)) 26).toNat 64)) 67108863)))).getD (w64 ((wR iS (Int.tdiv (w64 (8*u22)) 26))+1)).toNat 0)+(Int.fdiv (wR iS (byteAt x0 u22)) (2 ^ min (w64 (26-(Int.tmod (w64 (8*u22)) 26))).toNat 64))))).length=5:=by rw [List.length_set];exact lh54
     refine se trivial hk (hK_r73_12 _ _ fun w hF=>?_)
     have hs:=hs.f hF
     obtain rfl:=osi H
     show R71 _ _
     rw [hR71]
     exact ⟨((u18.set (wR iS (Int.tdiv (w64 (8*u22)) 26)).toNat (w64 ((u18.getD (wR iS (Int.tdiv (w64 (8*u22)) 26)).toNat 0)+(bia6 (wR iS ((wR iS (byteAt x0 u22))*2 ^ min (Int.tmod (w64 (8*u22)) 26).toNat 64)) 67108863)))).set (w64 ((wR iS (Int.tdiv (w64 (8*u22)) 26))+1)).toNat (w64 (((u18.set (wR iS (Int.tdiv (w64 (8*u22)) 26)).toNat (w64 ((u18.getD (wR iS (Int.tdiv (w64 (8*u22)) 26)).toNat 0)+(bia6 (wR iS ((wR iS (byteAt x0 u22))*2 ^ min (Int.tmod (w64 (8*u22)) 26).toNat 64)) 67108863)))).getD (w64 ((wR iS (Int.tdiv (w64 (8*u22)) 26))+1)).toNat 0)+(Int.fdiv (wR iS (byteAt x0 u22)) (2 ^ min (w64 (26-(Int.tmod (w64 (8*u22)) 26))).toNat 64))))),_,rfl,(hk.al rfl),(hs.pick [(1,1),(2,2)] rfl),o83,lh84⟩
    have hk:=hk.lit 36 c72 rfl
    refine cnd_false hk rfl rfl <| wp_skip ?_
    obtain rfl:=osi H
    show R71 _ _
    rw [hR71]
    exact ⟨(u18.set (wR iS (Int.tdiv (w64 (8*u22)) 26)).toNat (w64 ((u18.getD (wR iS (Int.tdiv (w64 (8*u22)) 26)).toNat 0)+(bia6 (wR iS ((wR iS (byteAt x0 u22))*2 ^ min (Int.tmod (w64 (8*u22)) 26).toNat 64)) 67108863)))),_,rfl,(hk.al rfl),(hs.pick [(1,1),(2,2)] rfl),o53,lh54⟩
   intro a w hR0
   rw [hR71] at hR0
   obtain ⟨u64,k65,rfl,hk,hs,o66,lh67⟩:=hR0
   have H:=HL70
   try dsimp only at H
   refine hK38 _ _ ?_
   apply wp_region_lit
   refine mv hk rfl fun a hk=>sv (vI iS (w64 (u22+1))) hk rfl rfl rfl fun a hk=>mv hk rfl fun a hk=>?_
   show wpList _ _ _ [] _ _
   refine wpList_nil ?_
   obtain rfl:=osi H
   obtain ⟨m85,hmm85,h34⟩:=h34
   show ∃ n',n'<_∧I31 n' _ _
   refine ⟨m85,hmm85,?_⟩
   rw [hI31]
   exact ⟨_,_,_,h34,(hk.al rfl),(hs.pick [(1,1),(2,2)] rfl),o66,lh67⟩
  have hk:=hk.lit 9 c37 rfl
  refine cnd_false hk rfl rfl <| wp_exit ?_
  obtain rfl:=osi H
  show R30 _ _
  rw [hR30]
  exact ⟨_,_,h34.symm,(hk.al rfl),(hs.pick [(1,1),(2,2)] rfl),o20,lh21⟩
 intro a w hR0
 rw [hR30] at hR0
 obtain ⟨u23,k24,rfl,hk,hs,o25,lh26⟩:=hR0
 have H:=HL29
 try dsimp only at H
 refine hK14 _ _ <| sr fun _ hK86=>slna (k:=2) hs rfl o25 lh26 rfl hk rfl rfl rfl ag156 sz156 fun a hk=>sswa 1 u23 hs rfl o4 lh5 lh26 rfl rfl hk rfl rfl rfl rfl sz156 fun k87 w a hk o88 hs=>nx hK86 <| wp_ret ?_
 obtain rfl:=osi H
 exact fin hk _ [(aggI .i64 u23)] rfl ⟨⟨_,rfl,run_loadA ag156 sz156 o88 lh26 hs (q:=1) rfl⟩,trivial⟩ ⟨rfl,lh26,(hs.pick [] rfl).dnil⟩
noncomputable def spec_l03Clamp.s0 (x0:ByteArray) (u13:List Int) (u17:Int):Option (((List Int)×Int) ⊕ Ex ((List Int)) (ByteArray)) :=
  (bif (decide (u17<16)) then (if 0≤u17∧u17<((bytesOf (x0.extract 0 (16:Int).toNat)).length:Int) then (if 0≤u17∧u17<((bytesOf (x0.extract 0 (16:Int).toNat)).length:Int) then (some (.inl ((u13.set u17.toNat (wR iB ((bO 8 (u13.getD u17.toNat 0) &&& bO 8 15).toNat:Int))),(w64 (u17+4))))) else none) else none) else (some (.inr (.out u13))))
noncomputable def spec_l03Clamp.s1 (x0:ByteArray) (u49:List Int) (u53:Int):Option (((List Int)×Int) ⊕ Ex ((List Int)) (ByteArray)) :=
  (bif (decide (u53<16)) then (if 0≤u53∧u53<((bytesOf (x0.extract 0 (16:Int).toNat)).length:Int) then (if 0≤u53∧u53<((bytesOf (x0.extract 0 (16:Int).toNat)).length:Int) then (some (.inl ((u49.set u53.toNat (wR iB ((bO 8 (u49.getD u53.toNat 0) &&& bO 8 252).toNat:Int))),(w64 (u53+4))))) else none) else none) else (some (.inr (.out u49))))
noncomputable def spec_l03Clamp.f (x0:ByteArray):Option (ByteArray) :=
  (if 0≤(16:Int)∧(16:Int)≤(x0.size:Int) then (if (x0.extract 0 (16:Int).toNat).size≤1073741824 then ((loopO (fun s=>spec_l03Clamp.s0 x0 s.1 s.2) ((bytesOf (x0.extract 0 (16:Int).toNat)),3)).bind fun o=>match o with | .out u18=>((loopO (fun s=>spec_l03Clamp.s1 x0 s.1 s.2) (u18,4)).bind fun o=>match o with | .out u54=>(some (strOfNums u54)) | .ret r=>(some r)) | .ret r=>(some r)) else none) else none)
theorem spec_l03Clamp_t (w0:World) (x0:ByteArray) (r:ByteArray) (H:spec_l03Clamp.f x0=some r) :
    Calls Tryz.prog 132 #[vS x0] w0 (Ret (fun v w=>v=vS r∧Sat [] w0 w [] [])):=by
 have hs:=sat0 w0 [] (by simp)
 unfold spec_l03Clamp.f at H
 refine enter Tryz.func132 rfl Tryz.ntmps132 rfl fun a hk=>sr fun _ hK1=>mv hk rfl fun a hk=>nx hK1 <| sr fun _ hK2=>mv hk rfl fun a hk=>?_
 obtain ⟨c3,H⟩:=ite_no H
 refine ssl_h rfl hk rfl rfl rfl rfl un9 c3.1 c3.2 fun a hk=>?_
 obtain ⟨c4,H⟩:=ite_no H
 refine scb 1 hs rfl hk rfl rfl rfl un9 un101 un5 c4 fun b5 p6 k7 w a hk o8 hs=>mv hk rfl fun a hk=>nx hK2 <| sq fun _ hK9=>sr fun _ hK10=>mv hk rfl fun a hk=>nx hK10 ?_
 obtain ⟨o22,h23,HL24⟩:=bind_some H
 clear H
 obtain ⟨R25,hR25⟩:=nm fun a w=>∃ (u18:List Int) (k19:Chunk),o22 = .out u18∧Kn [(3,(vL (some ⟨b5,0,none⟩) (bytesOf (x0.extract 0 (16:Int).toNat)).length p6))] 31 a∧Sat [] w0 w [] [(1,k19)]∧OwnM (Lay.int iB) 5 (some ⟨b5,0,none⟩) p6 u18 k19∧u18.length=(bytesOf (x0.extract 0 (16:Int).toNat)).length
 refine wp_cutq R25 ?_ ?_
 ·refine wp_block ?_
  obtain ⟨fu27,h23⟩:=loopO_some h23
  obtain ⟨I26,hI26⟩:=nm fun fu a w=>∃ (u13:List Int) (u17:Int) (k14:Chunk),loopN (fun s=>spec_l03Clamp.s0 x0 s.1 s.2) fu (u13,u17)=some o22∧Kn [(3,(vL (some ⟨b5,0,none⟩) (bytesOf (x0.extract 0 (16:Int).toNat)).length p6)),(4,(vI iS u17))] 31 a∧Sat [] w0 w [] [(1,k14)]∧OwnM (Lay.int iB) 5 (some ⟨b5,0,none⟩) p6 u13 k14∧u13.length=(bytesOf (x0.extract 0 (16:Int).toNat)).length
  refine wp_loop_ghost I26 fu27 ?_ ?_
  ·rw [hI26]
   exact ⟨_,_,_,h23,(hk.al rfl),(hs.pick [(1,1)] rfl),o8,rfl⟩
  clear h23 hk hs
  intro fu27 a w hI0
  rw [hI26] at hI0
  obtain ⟨u13,u17,k14,hi,hk,hs,o15,lh16⟩:=hI0
  obtain ⟨x28,H,h29⟩:=loop_round hi
  try dsimp only at H
  unfold spec_l03Clamp.s0 at H
  refine sq fun _ hK30=>sr fun _ hK31=>mv hk rfl fun a hk=>sv (.bool (decide (u17<16))) hk rfl rfl rfl fun a hk=>nx hK31 ?_
  rcases cond_some H with ⟨c32,H⟩ | ⟨c32,H⟩
  ·have hk:=hk.lit 10 c32 rfl
   refine cnd_true hk rfl rfl <| wp_skip <| hK30 _ _ <| sq fun _ hK33=>wp_block ?_
   apply wp_region_lit
   refine mv hk rfl fun a hk=>mv hk rfl fun a hk=>?_
   obtain ⟨c34,H⟩:=ite_no H
   obtain ⟨b35,q36,hAc34⟩:=(o15.view).some_ u17 c34.1 (by rw [lh16];exact c34.2)
   refine si rfl hk rfl rfl rfl rfl un101 sz5 c34.1 c34.2 hAc34 fun a hk=>?_
   obtain ⟨_,rfl,e37⟩:=(o15.view).at_ 0 u17 c34.1 (by rw [lh16];exact c34.2)
   refine sl (v:=(vI iB (u13.getD u17.toNat 0))) rfl hk rfl rfl rfl ag5 ((e37 0 _ rfl).cell (hs.hasG (k:=1) rfl)) fun a hk=>sv (vI iB (bia1 (u13.getD u17.toNat 0) 15)) hk rfl rfl rfl fun a hk=>?_
   obtain ⟨c38,H⟩:=ite_no H
   obtain ⟨b39,q40,hAc38⟩:=(o15.view).some_ u17 c38.1 (by rw [lh16];exact c38.2)
   refine si rfl hk rfl rfl rfl rfl un101 sz5 c38.1 c38.2 hAc38 fun a hk=>sob 1 (bia1 (u13.getD u17.toNat 0) 15) hs rfl o15 c38.1 (by rw [lh16];exact c38.2) rfl hk rfl rfl rfl rfl rfl sz5 rfl rfl rfl ⟨rfl,rfl⟩ fun k41 w a hk o42 hs=>?_
   have lh43:(u13.set u17.toNat (bia1 (u13.getD u17.toNat 0) 15)).length=(bytesOf (x0.extract 0 (16:Int).toNat)).length:=by rw [List.length_set];exact lh16
   refine nx hK33 ?_
   apply wp_region_lit
   refine mv hk rfl fun a hk=>sv (vI iS (w64 (u17+4))) hk rfl rfl rfl fun a hk=>mv hk rfl fun a hk=>?_
   show wpList _ _ _ [] _ _
   refine wpList_nil ?_
   obtain rfl:=osi H
   obtain ⟨m44,hmm44,h29⟩:=h29
   show ∃ n',n'<_∧I26 n' _ _
   refine ⟨m44,hmm44,?_⟩
   rw [hI26]
   exact ⟨_,_,_,h29,(hk.al rfl),(hs.pick [(1,1)] rfl),o42,lh43⟩
  have hk:=hk.lit 10 c32 rfl
  refine cnd_false hk rfl rfl <| wp_exit ?_
  obtain rfl:=osi H
  show R25 _ _
  rw [hR25]
  exact ⟨_,_,h29.symm,(hk.al rfl),(hs.pick [(1,1)] rfl),o15,lh16⟩
 intro a w hR0
 rw [hR25] at hR0
 obtain ⟨u18,k19,rfl,hk,hs,o20,lh21⟩:=hR0
 have H:=HL24
 try dsimp only at H
 refine hK9 _ _ <| sq fun _ hK45=>sr fun _ hK46=>mv hk rfl fun a hk=>nx hK46 ?_
 obtain ⟨o58,h59,HL60⟩:=bind_some H
 clear H
 obtain ⟨R61,hR61⟩:=nm fun a w=>∃ (u54:List Int) (k55:Chunk),o58 = .out u54∧Kn [(3,(vL (some ⟨b5,0,none⟩) (bytesOf (x0.extract 0 (16:Int).toNat)).length p6))] 31 a∧Sat [] w0 w [] [(1,k55)]∧OwnM (Lay.int iB) 5 (some ⟨b5,0,none⟩) p6 u54 k55∧u54.length=(bytesOf (x0.extract 0 (16:Int).toNat)).length
 refine wp_cutq R61 ?_ ?_
 ·refine wp_block ?_
  obtain ⟨fu63,h59⟩:=loopO_some h59
  obtain ⟨I62,hI62⟩:=nm fun fu a w=>∃ (u49:List Int) (u53:Int) (k50:Chunk),loopN (fun s=>spec_l03Clamp.s1 x0 s.1 s.2) fu (u49,u53)=some o58∧Kn [(3,(vL (some ⟨b5,0,none⟩) (bytesOf (x0.extract 0 (16:Int).toNat)).length p6)),(5,(vI iS u53))] 31 a∧Sat [] w0 w [] [(1,k50)]∧OwnM (Lay.int iB) 5 (some ⟨b5,0,none⟩) p6 u49 k50∧u49.length=(bytesOf (x0.extract 0 (16:Int).toNat)).length
  refine wp_loop_ghost I62 fu63 ?_ ?_
  ·rw [hI62]
   exact ⟨_,_,_,h59,(hk.al rfl),(hs.pick [(1,1)] rfl),o20,lh21⟩
  clear h59 hk hs
  intro fu63 a w hI0
  rw [hI62] at hI0
  obtain ⟨u49,u53,k50,hi,hk,hs,o51,lh52⟩:=hI0
  obtain ⟨x64,H,h65⟩:=loop_round hi
  try dsimp only at H
  unfold spec_l03Clamp.s1 at H
  refine sq fun _ hK66=>sr fun _ hK67=>mv hk rfl fun a hk=>sv (.bool (decide (u53<16))) hk rfl rfl rfl fun a hk=>nx hK67 ?_
  rcases cond_some H with ⟨c68,H⟩ | ⟨c68,H⟩
  ·have hk:=hk.lit 20 c68 rfl
   refine cnd_true hk rfl rfl <| wp_skip <| hK66 _ _ <| sq fun _ hK69=>wp_block ?_
   apply wp_region_lit
   refine mv hk rfl fun a hk=>mv hk rfl fun a hk=>?_
   obtain ⟨c70,H⟩:=ite_no H
   obtain ⟨b71,q72,hAc70⟩:=(o51.view).some_ u53 c70.1 (by rw [lh52];exact c70.2)
   refine si rfl hk rfl rfl rfl rfl un101 sz5 c70.1 c70.2 hAc70 fun a hk=>?_
   obtain ⟨_,rfl,e73⟩:=(o51.view).at_ 0 u53 c70.1 (by rw [lh52];exact c70.2)
   refine sl (v:=(vI iB (u49.getD u53.toNat 0))) rfl hk rfl rfl rfl ag5 ((e73 0 _ rfl).cell (hs.hasG (k:=1) rfl)) fun a hk=>sv (vI iB (bia1 (u49.getD u53.toNat 0) 252)) hk rfl rfl rfl fun a hk=>?_
   obtain ⟨c74,H⟩:=ite_no H
   obtain ⟨b75,q76,hAc74⟩:=(o51.view).some_ u53 c74.1 (by rw [lh52];exact c74.2)
   refine si rfl hk rfl rfl rfl rfl un101 sz5 c74.1 c74.2 hAc74 fun a hk=>sob 1 (bia1 (u49.getD u53.toNat 0) 252) hs rfl o51 c74.1 (by rw [lh52];exact c74.2) rfl hk rfl rfl rfl rfl rfl sz5 rfl rfl rfl ⟨rfl,rfl⟩ fun k77 w a hk o78 hs=>?_
   have lh79:(u49.set u53.toNat (bia1 (u49.getD u53.toNat 0) 252)).length=(bytesOf (x0.extract 0 (16:Int).toNat)).length:=by rw [List.length_set];exact lh52
   refine nx hK69 ?_
   have hs:=hs.pick [(1,1)] rfl
   apply wp_region_lit
   refine mv hk rfl fun a hk=>sv (vI iS (w64 (u53+4))) hk rfl rfl rfl fun a hk=>mv hk rfl fun a hk=>?_
   show wpList _ _ _ [] _ _
   refine wpList_nil ?_
   obtain rfl:=osi H
   obtain ⟨m80,hmm80,h65⟩:=h65
   show ∃ n',n'<_∧I62 n' _ _
   refine ⟨m80,hmm80,?_⟩
   rw [hI62]
   exact ⟨_,_,_,h65,(hk.al rfl),(hs.pick [(1,1)] rfl),o78,lh79⟩
  have hk:=hk.lit 20 c68 rfl
  refine cnd_false hk rfl rfl <| wp_exit ?_
  obtain rfl:=osi H
  show R61 _ _
  rw [hR61]
  exact ⟨_,_,h65.symm,(hk.al rfl),(hs.pick [(1,1)] rfl),o51,lh52⟩
 intro a w hR0
 rw [hR61] at hR0
 obtain ⟨u54,k55,rfl,hk,hs,o56,lh57⟩:=hR0
 have H:=HL60
 try dsimp only at H
 refine hK45 _ _ <| sr fun _ hK81=>mv hk rfl fun a hk=>sbt (xs:=u54) rfl hk rfl rfl lh57.symm rfl un101 un5 un9 o56.view (hs.hasG (k:=1) rfl) fun a hk=>mv hk rfl fun a hk=>nx hK81 <| wp_ret ?_
 obtain rfl:=osi H
 exact fin hk _ [(vS (strOfNums u54))] rfl ⟨rfl,trivial⟩ ⟨rfl,(hs.pick [] rfl).dnil⟩
noncomputable def spec_l03Carry.s1  (u38:List Int) (u42:Int):Option (((List Int)×Int) ⊕ Ex ((List Int)) ((List Int))) :=
  (bif (decide (u42<4)) then (if 0≤(w64 (u42+1))∧(w64 (u42+1))<(5:Int) then (if 0≤u42∧u42<(5:Int) then (if 0≤(w64 (u42+1))∧(w64 (u42+1))<(5:Int) then (if 0≤u42∧u42<(5:Int) then (if 0≤u42∧u42<(5:Int) then (some (.inl (((u38.set (w64 (u42+1)).toNat (w64 ((u38.getD (w64 (u42+1)).toNat 0)+(Int.fdiv (u38.getD u42.toNat 0) (2 ^ 26))))).set u42.toNat (wR iS ((bO 64 ((u38.set (w64 (u42+1)).toNat (w64 ((u38.getD (w64 (u42+1)).toNat 0)+(Int.fdiv (u38.getD u42.toNat 0) (2 ^ 26))))).getD u42.toNat 0) &&& bO 64 67108863).toNat:Int))),(w64 (u42+1))))) else none) else none) else none) else none) else none) else (some (.inr (.out u38))))
noncomputable def spec_l03Carry.s0  (u13:List Int) (u17:Int):Option (((List Int)×Int) ⊕ Ex ((List Int)) ((List Int))) :=
  (bif (decide (u17<3)) then ((loopO (fun s=>spec_l03Carry.s1  s.1 s.2) (u13,0)).bind fun o=>match o with | .out u43=>(if 0≤(0:Int)∧(0:Int)<(5:Int) then (if 0≤(4:Int)∧(4:Int)<(5:Int) then (if 0≤(0:Int)∧(0:Int)<(5:Int) then (if 0≤(4:Int)∧(4:Int)<(5:Int) then (if 0≤(4:Int)∧(4:Int)<(5:Int) then (some (.inl (((u43.set (0:Int).toNat (w64 ((u43.getD (0:Int).toNat 0)+(w64 (5*(Int.fdiv (u43.getD (4:Int).toNat 0) (2 ^ 26))))))).set (4:Int).toNat (wR iS ((bO 64 ((u43.set (0:Int).toNat (w64 ((u43.getD (0:Int).toNat 0)+(w64 (5*(Int.fdiv (u43.getD (4:Int).toNat 0) (2 ^ 26))))))).getD (4:Int).toNat 0) &&& bO 64 67108863).toNat:Int))),(w64 (u17+1))))) else none) else none) else none) else none) else none) | .ret r=>(some (.inr (.ret r)))) else (some (.inr (.out u13))))
noncomputable def spec_l03Carry.f (x0:List Int):Option ((List Int)) :=
  ((loopO (fun s=>spec_l03Carry.s0  s.1 s.2) (x0,0)).bind fun o=>match o with | .out u18=>(some u18) | .ret r=>(some r))
theorem spec_l03Carry_t (w0:World) (x0:List Int) (e0_:x0.length=5) (r:(List Int)) (H:spec_l03Carry.f x0=some r) :
    Calls Tryz.prog 135 #[aggI .i64 x0] w0 (Ret (fun v w=>v=aggI .i64 r∧r.length=5∧Sat [] w0 w [] [])):=by
 have hs:=sat0 w0 [] (by simp)
 unfold spec_l03Carry.f at H
 refine enter Tryz.func135 rfl Tryz.ntmps135 rfl fun a hk=>sr fun _ hK1=>sbxa 1 hs rfl hk rfl rfl rfl e0_ rfl fun b2 k3 w a hk o4 hs=>sala 2 ((Lay.int iS)) (m:=5) (z:=0) (zc:=[vI iS 0]) hs rfl hk rfl rfl ze156 (by exact ⟨rfl,rfl⟩) rfl rfl rfl fun b5 k6 w a hk o7 hs=>?_
 have lh8:(List.replicate 5 (0:Int)).length=5:=List.length_replicate
 refine nx hK1 <| sq fun _ hK9=>sr fun _ hK10=>mv hk rfl fun a hk=>nx hK10 ?_
 obtain ⟨o22,h23,HL24⟩:=bind_some H
 clear H
 obtain ⟨R25,hR25⟩:=nm fun a w=>∃ (u18:List Int) (k19:Chunk),o22 = .out u18∧Kn [(1,(vP (some ⟨b2,0,none⟩))),(2,(vP (some ⟨b5,0,none⟩)))] 41 a∧Sat [] w0 w [] [(1,k19),(2,k6)]∧Own (Lay.int iS) 156 (some ⟨b2,0,none⟩) 5 u18 k19∧u18.length=5
 refine wp_cutq R25 ?_ ?_
 ·refine wp_block ?_
  obtain ⟨fu27,h23⟩:=loopO_some h23
  obtain ⟨I26,hI26⟩:=nm fun fu a w=>∃ (u13:List Int) (u17:Int) (k14:Chunk),loopN (fun s=>spec_l03Carry.s0  s.1 s.2) fu (u13,u17)=some o22∧Kn [(1,(vP (some ⟨b2,0,none⟩))),(2,(vP (some ⟨b5,0,none⟩))),(3,(vI iS u17))] 41 a∧Sat [] w0 w [] [(1,k14),(2,k6)]∧Own (Lay.int iS) 156 (some ⟨b2,0,none⟩) 5 u13 k14∧u13.length=5
  refine wp_loop_ghost I26 fu27 ?_ ?_
  ·rw [hI26]
   exact ⟨_,_,_,h23,(hk.al rfl),(hs.pick [(1,1),(2,2)] rfl),o4,e0_⟩
  clear h23 hk hs
  intro fu27 a w hI0
  rw [hI26] at hI0
  obtain ⟨u13,u17,k14,hi,hk,hs,o15,lh16⟩:=hI0
  obtain ⟨x28,H,h29⟩:=loop_round hi
  try dsimp only at H
  unfold spec_l03Carry.s0 at H
  refine sq fun _ hK30=>sr fun _ hK31=>mv hk rfl fun a hk=>sv (.bool (decide (u17<3))) hk rfl rfl rfl fun a hk=>nx hK31 ?_
  rcases cond_some H with ⟨c32,H⟩ | ⟨c32,H⟩
  ·have hk:=hk.lit 6 c32 rfl
   refine cnd_true hk rfl rfl <| wp_skip <| hK30 _ _ <| sq fun _ hK33=>wp_block ?_
   refine sq fun _ hK34=>sr fun _ hK35=>mv hk rfl fun a hk=>nx hK35 ?_
   obtain ⟨o47,h48,HL49⟩:=bind_some H
   clear H
   obtain ⟨R50,hR50⟩:=nm fun a w=>∃ (u43:List Int) (k44:Chunk),o47 = .out u43∧Kn [(1,(vP (some ⟨b2,0,none⟩))),(2,(vP (some ⟨b5,0,none⟩))),(3,(vI iS u17))] 41 a∧Sat [] w0 w [] [(1,k44),(2,k6)]∧Own (Lay.int iS) 156 (some ⟨b2,0,none⟩) 5 u43 k44∧u43.length=5
   refine wp_cutq R50 ?_ ?_
   ·refine wp_block ?_
    obtain ⟨fu52,h48⟩:=loopO_some h48
    obtain ⟨I51,hI51⟩:=nm fun fu a w=>∃ (u38:List Int) (u42:Int) (k39:Chunk),loopN (fun s=>spec_l03Carry.s1  s.1 s.2) fu (u38,u42)=some o47∧Kn [(1,(vP (some ⟨b2,0,none⟩))),(2,(vP (some ⟨b5,0,none⟩))),(3,(vI iS u17)),(4,(vI iS u42))] 41 a∧Sat [] w0 w [] [(1,k39),(2,k6)]∧Own (Lay.int iS) 156 (some ⟨b2,0,none⟩) 5 u38 k39∧u38.length=5
    refine wp_loop_ghost I51 fu52 ?_ ?_
    ·rw [hI51]
     exact ⟨_,_,_,h48,(hk.al rfl),(hs.pick [(1,1),(2,2)] rfl),o15,lh16⟩
    clear h48 hk hs
    intro fu52 a w hI0
    rw [hI51] at hI0
    obtain ⟨u38,u42,k39,hi,hk,hs,o40,lh41⟩:=hI0
    obtain ⟨x53,H,h54⟩:=loop_round hi
    try dsimp only at H
    unfold spec_l03Carry.s1 at H
    refine sq fun _ hK55=>sr fun _ hK56=>mv hk rfl fun a hk=>sv (.bool (decide (u42<4))) hk rfl rfl rfl fun a hk=>nx hK56 ?_
    rcases cond_some H with ⟨c57,H⟩ | ⟨c57,H⟩
    ·have hk:=hk.lit 10 c57 rfl
     refine cnd_true hk rfl rfl <| wp_skip <| hK55 _ _ <| sq fun _ hK58=>wp_block ?_
     refine sq fun _ hK59=>wp_region_tree (.q 0 (.q 1 (.q 2 (.q 3 (.alt 4 (.alt 5 (.alt 6 (.alt 7 (.alt 8 (.alt 9 (.last 10) .stop) .stop) .stop) .stop) .stop) .stop))))) mo (by kernel_rfl) (hs.pick [(1,1),(2,2)] rfl) fun _=>?_
     have hs:=hs.drew
     refine tqm hk rfl fun a hk=>tqv (vI iS (w64 (u42+1))) hk rfl rfl (fun _=>rfl) fun a hk=>?_
     obtain ⟨c61,H⟩:=ite_no H
     obtain ⟨b62,q63,hAc61⟩:=(o40.view).some_ (w64 (u42+1)) c61.1 (by rw [lh41];exact c61.2)
     refine tqst _ hk rfl rfl rfl rfl (fun w hs=>sia rfl hk rfl rfl rfl rfl un156 sz3 c61.1 c61.2 hAc61 fun a hk=>qe hk) fun a hk=>?_
     obtain ⟨_,rfl,e64⟩:=(o40.view).at_ 0 (w64 (u42+1)) c61.1 (by rw [lh41];exact c61.2)
     refine tqst _ hk rfl rfl rfl rfl (fun w hs=>sl (v:=(vI iS (u38.getD (w64 (u42+1)).toNat 0))) rfl hk rfl rfl rfl ag3 ((e64 0 _ rfl).cell (hs.hasG (k:=1) rfl)) fun a hk=>qe hk) fun a hk=>tss hs hk rfl rfl fun _ hK_r60_4 w hs=>mv hk rfl fun a hk=>se (hs.pick [(1,1),(2,2)] rfl) hk (hK_r60_4 _ _ ?_)
     refine tss hs hk rfl rfl fun _ hK_r60_5 w hs=>?_
     obtain ⟨c65,H⟩:=ite_no H
     obtain ⟨b66,q67,hAc65⟩:=(o40.view).some_ u42 c65.1 (by rw [lh41];exact c65.2)
     refine sia rfl hk rfl rfl rfl rfl un156 sz3 c65.1 c65.2 hAc65 fun a hk=>se (hs.pick [(1,1),(2,2)] rfl) hk (hK_r60_5 _ _ ?_)
     refine tss hs hk rfl rfl fun _ hK_r60_6 w hs=>?_
     obtain ⟨_,rfl,e68⟩:=(o40.view).at_ 0 u42 c65.1 (by rw [lh41];exact c65.2)
     refine sl (v:=(vI iS (u38.getD u42.toNat 0))) rfl hk rfl rfl rfl ag3 ((e68 0 _ rfl).cell (hs.hasG (k:=1) rfl)) fun a hk=>se (hs.pick [(1,1),(2,2)] rfl) hk (hK_r60_6 _ _ ?_)
     refine tss hs hk rfl rfl fun _ hK_r60_7 w hs=>sv (vI iS (Int.fdiv (u38.getD u42.toNat 0) (2 ^ 26))) hk rfl rfl rfl fun a hk=>se (hs.pick [(1,1),(2,2)] rfl) hk (hK_r60_7 _ _ ?_)
     refine tss hs hk rfl rfl fun _ hK_r60_8 w hs=>sv (vI iS (w64 ((u38.getD (w64 (u42+1)).toNat 0)+(Int.fdiv (u38.getD u42.toNat 0) (2 ^ 26))))) hk rfl rfl rfl fun a hk=>se (hs.pick [(1,1),(2,2)] rfl) hk (hK_r60_8 _ _ ?_)
     refine tss hs hk rfl rfl fun _ hK_r60_9 w hs=>?_
     obtain ⟨c69,H⟩:=ite_no H
     obtain ⟨b70,q71,hAc69⟩:=(o40.view).some_ (w64 (u42+1)) c69.1 (by rw [lh41];exact c69.2)
     refine sia rfl hk rfl rfl rfl rfl un156 sz3 c69.1 c69.2 hAc69 fun a hk=>se (hs.pick [(1,1),(2,2)] rfl) hk (hK_r60_9 _ _ ?_)
     refine tlst hk rfl rfl fun K_r60_10 hK_r60_10 w hF=>?_
     have hs:=hs.f hF
     refine so (j:=0) 1 0 (w64 ((u38.getD (w64 (u42+1)).toNat 0)+(Int.fdiv (u38.getD u42.toNat 0) (2 ^ 26)))) hs rfl o40 c69.1 (by rw [lh41];exact c69.2) rfl hk rfl rfl rfl rfl rfl sz3 (by simp [Value.cells,Value.oneCell']) (Nat.le_of_ble_eq_true rfl) (fun _ _ h=>⟨by rw [h.1];rfl,h.2⟩) fun k72 w a hk o73 hs=>?_
     have lh74:(u38.set (w64 (u42+1)).toNat (w64 ((u38.getD (w64 (u42+1)).toNat 0)+(Int.fdiv (u38.getD u42.toNat 0) (2 ^ 26))))).length=5:=by rw [List.length_set];exact lh41
     refine se trivial hk (hK_r60_10 _ _ fun w hF=>?_)
     have hs:=hs.f hF
     refine hK59 _ _ ?_
     have hs:=hs.pick [(1,1),(2,2)] rfl
     apply wp_region_lit
     refine mv hk rfl fun a hk=>?_
     obtain ⟨c75,H⟩:=ite_no H
     obtain ⟨b76,q77,hAc75⟩:=(o73.view).some_ u42 c75.1 (by rw [lh74];exact c75.2)
     refine sia rfl hk rfl rfl rfl rfl un156 sz3 c75.1 c75.2 hAc75 fun a hk=>?_
     obtain ⟨_,rfl,e78⟩:=(o73.view).at_ 0 u42 c75.1 (by rw [lh74];exact c75.2)
     refine sl (v:=(vI iS ((u38.set (w64 (u42+1)).toNat (w64 ((u38.getD (w64 (u42+1)).toNat 0)+(Int.fdiv (u38.getD u42.toNat 0) (2 ^ 26))))).getD u42.toNat 0))) rfl hk rfl rfl rfl ag3 ((e78 0 _ rfl).cell (hs.hasG (k:=1) rfl)) fun a hk=>sv (vI iS (bia6 ((u38.set (w64 (u42+1)).toNat (w64 ((u38.getD (w64 (u42+1)).toNat 0)+(Int.fdiv (u38.getD u42.toNat 0) (2 ^ 26))))).getD u42.toNat 0) 67108863)) hk rfl rfl rfl fun a hk=>?_
     obtain ⟨c79,H⟩:=ite_no H
     obtain ⟨b80,q81,hAc79⟩:=(o73.view).some_ u42 c79.1 (by rw [lh74];exact c79.2)
     refine sia rfl hk rfl rfl rfl rfl un156 sz3 c79.1 c79.2 hAc79 fun a hk=>so (j:=0) 1 0 (bia6 ((u38.set (w64 (u42+1)).toNat (w64 ((u38.getD (w64 (u42+1)).toNat 0)+(Int.fdiv (u38.getD u42.toNat 0) (2 ^ 26))))).getD u42.toNat 0) 67108863) hs rfl o73 c79.1 (by rw [lh74];exact c79.2) rfl hk rfl rfl rfl rfl rfl sz3 (by simp [Value.cells,Value.oneCell']) (Nat.le_of_ble_eq_true rfl) (fun _ _ h=>⟨by rw [h.1];rfl,h.2⟩) fun k82 w a hk o83 hs=>?_
     have lh84:((u38.set (w64 (u42+1)).toNat (w64 ((u38.getD (w64 (u42+1)).toNat 0)+(Int.fdiv (u38.getD u42.toNat 0) (2 ^ 26))))).set u42.toNat (bia6 ((u38.set (w64 (u42+1)).toNat (w64 ((u38.getD (w64 (u42+1)).toNat 0)+(Int.fdiv (u38.getD u42.toNat 0) (2 ^ 26))))).getD u42.toNat 0) 67108863)).length=5:=by rw [List.length_set];exact lh74
     refine nx hK58 ?_
     apply wp_region_lit
     refine mv hk rfl fun a hk=>sv (vI iS (w64 (u42+1))) hk rfl rfl rfl fun a hk=>mv hk rfl fun a hk=>?_
     show wpList _ _ _ [] _ _
     refine wpList_nil ?_
     obtain rfl:=osi H
     obtain ⟨m85,hmm85,h54⟩:=h54
     show ∃ n',n'<_∧I51 n' _ _
     refine ⟨m85,hmm85,?_⟩
     rw [hI51]
     exact ⟨_,_,_,h54,(hk.al rfl),(hs.pick [(1,1),(2,2)] rfl),o83,lh84⟩
    have hk:=hk.lit 10 c57 rfl
    refine cnd_false hk rfl rfl <| wp_exit ?_
    obtain rfl:=osi H
    show R50 _ _
    rw [hR50]
    exact ⟨_,_,h54.symm,(hk.al rfl),(hs.pick [(1,1),(2,2)] rfl),o40,lh41⟩
   intro a w hR0
   rw [hR50] at hR0
   obtain ⟨u43,k44,rfl,hk,hs,o45,lh46⟩:=hR0
   have H:=HL49
   try dsimp only at H
   refine hK34 _ _ <| sr fun _ hK86=>?_
   obtain ⟨c87,H⟩:=ite_no H
   obtain ⟨b88,q89,hAc87⟩:=(o45.view).some_ (0:Int) c87.1 (by rw [lh46];exact c87.2)
   refine sia rfl hk rfl rfl rfl rfl un156 sz3 c87.1 c87.2 hAc87 fun a hk=>?_
   obtain ⟨_,rfl,e90⟩:=(o45.view).at_ 0 (0:Int) c87.1 (by rw [lh46];exact c87.2)
   refine sl (v:=(vI iS (u43.getD (0:Int).toNat 0))) rfl hk rfl rfl rfl ag3 ((e90 0 _ rfl).cell (hs.hasG (k:=1) rfl)) fun a hk=>?_
   obtain ⟨c91,H⟩:=ite_no H
   obtain ⟨b92,q93,hAc91⟩:=(o45.view).some_ (4:Int) c91.1 (by rw [lh46];exact c91.2)
   refine sia rfl hk rfl rfl rfl rfl un156 sz3 c91.1 c91.2 hAc91 fun a hk=>?_
   obtain ⟨_,rfl,e94⟩:=(o45.view).at_ 0 (4:Int) c91.1 (by rw [lh46];exact c91.2)
   refine sl (v:=(vI iS (u43.getD (4:Int).toNat 0))) rfl hk rfl rfl rfl ag3 ((e94 0 _ rfl).cell (hs.hasG (k:=1) rfl)) fun a hk=>sv (vI iS (Int.fdiv (u43.getD (4:Int).toNat 0) (2 ^ 26))) hk rfl rfl rfl fun a hk=>sv (vI iS (w64 (5*(Int.fdiv (u43.getD (4:Int).toNat 0) (2 ^ 26))))) hk rfl rfl rfl fun a hk=>sv (vI iS (w64 ((u43.getD (0:Int).toNat 0)+(w64 (5*(Int.fdiv (u43.getD (4:Int).toNat 0) (2 ^ 26))))))) hk rfl rfl rfl fun a hk=>?_
   obtain ⟨c95,H⟩:=ite_no H
   obtain ⟨b96,q97,hAc95⟩:=(o45.view).some_ (0:Int) c95.1 (by rw [lh46];exact c95.2)
   refine sia rfl hk rfl rfl rfl rfl un156 sz3 c95.1 c95.2 hAc95 fun a hk=>so (j:=0) 1 0 (w64 ((u43.getD (0:Int).toNat 0)+(w64 (5*(Int.fdiv (u43.getD (4:Int).toNat 0) (2 ^ 26)))))) hs rfl o45 c95.1 (by rw [lh46];exact c95.2) rfl hk rfl rfl rfl rfl rfl sz3 (by simp [Value.cells,Value.oneCell']) (Nat.le_of_ble_eq_true rfl) (fun _ _ h=>⟨by rw [h.1];rfl,h.2⟩) fun k98 w a hk o99 hs=>?_
   have lh100:(u43.set (0:Int).toNat (w64 ((u43.getD (0:Int).toNat 0)+(w64 (5*(Int.fdiv (u43.getD (4:Int).toNat 0) (2 ^ 26))))))).length=5:=by rw [List.length_set];exact lh46
   refine nx hK86 ?_
   apply wp_region_lit
   obtain ⟨c101,H⟩:=ite_no H
   obtain ⟨b102,q103,hAc101⟩:=(o99.view).some_ (4:Int) c101.1 (by rw [lh100];exact c101.2)
   refine sia rfl hk rfl rfl rfl rfl un156 sz3 c101.1 c101.2 hAc101 fun a hk=>?_
   obtain ⟨_,rfl,e104⟩:=(o99.view).at_ 0 (4:Int) c101.1 (by rw [lh100];exact c101.2)
   refine sl (v:=(vI iS ((u43.set (0:Int).toNat (w64 ((u43.getD (0:Int).toNat 0)+(w64 (5*(Int.fdiv (u43.getD (4:Int).toNat 0) (2 ^ 26))))))).getD (4:Int).toNat 0))) rfl hk rfl rfl rfl ag3 ((e104 0 _ rfl).cell (hs.hasG (k:=1) rfl)) fun a hk=>sv (vI iS (bia6 ((u43.set (0:Int).toNat (w64 ((u43.getD (0:Int).toNat 0)+(w64 (5*(Int.fdiv (u43.getD (4:Int).toNat 0) (2 ^ 26))))))).getD (4:Int).toNat 0) 67108863)) hk rfl rfl rfl fun a hk=>?_
   obtain ⟨c105,H⟩:=ite_no H
   obtain ⟨b106,q107,hAc105⟩:=(o99.view).some_ (4:Int) c105.1 (by rw [lh100];exact c105.2)
   refine sia rfl hk rfl rfl rfl rfl un156 sz3 c105.1 c105.2 hAc105 fun a hk=>so (j:=0) 1 0 (bia6 ((u43.set (0:Int).toNat (w64 ((u43.getD (0:Int).toNat 0)+(w64 (5*(Int.fdiv (u43.getD (4:Int).toNat 0) (2 ^ 26))))))).getD (4:Int).toNat 0) 67108863) hs rfl o99 c105.1 (by rw [lh100];exact c105.2) rfl hk rfl rfl rfl rfl rfl sz3 (by simp [Value.cells,Value.oneCell']) (Nat.le_of_ble_eq_true rfl) (fun _ _ h=>⟨by rw [h.1];rfl,h.2⟩) fun k108 w a hk o109 hs=>?_
   have lh110:((u43.set (0:Int).toNat (w64 ((u43.getD (0:Int).toNat 0)+(w64 (5*(Int.fdiv (u43.getD (4:Int).toNat 0) (2 ^ 26))))))).set (4:Int).toNat (bia6 ((u43.set (0:Int).toNat (w64 ((u43.getD (0:Int).toNat 0)+(w64 (5*(Int.fdiv (u43.getD (4:Int).toNat 0) (2 ^ 26))))))).getD (4:Int).toNat 0) 67108863)).length=5:=by rw [List.length_set];exact lh100
   refine nx hK33 ?_
   have hs:=hs.pick [(1,1),(2,2)] rfl
   apply wp_region_lit
   refine mv hk rfl fun a hk=>sv (vI iS (w64 (u17+1))) hk rfl rfl rfl fun a hk=>mv hk rfl fun a hk=>?_
   show wpList _ _ _ [] _ _
   refine wpList_nil ?_
   obtain rfl:=osi H
   obtain ⟨m111,hmm111,h29⟩:=h29
   show ∃ n',n'<_∧I26 n' _ _
   refine ⟨m111,hmm111,?_⟩
   rw [hI26]
   exact ⟨_,_,_,h29,(hk.al rfl),(hs.pick [(1,1),(2,2)] rfl),o109,lh110⟩
  have hk:=hk.lit 6 c32 rfl
  refine cnd_false hk rfl rfl <| wp_exit ?_
  obtain rfl:=osi H
  show R25 _ _
  rw [hR25]
  exact ⟨_,_,h29.symm,(hk.al rfl),(hs.pick [(1,1),(2,2)] rfl),o15,lh16⟩
 intro a w hR0
 rw [hR25] at hR0
 obtain ⟨u18,k19,rfl,hk,hs,o20,lh21⟩:=hR0
 have H:=HL24
 try dsimp only at H
 refine hK9 _ _ <| sr fun _ hK112=>slna (k:=1) hs rfl o20 lh21 rfl hk rfl rfl rfl ag156 sz156 fun a hk=>sswa 2 u18 hs rfl o7 lh8 lh21 rfl rfl hk rfl rfl rfl rfl sz156 fun k113 w a hk o114 hs=>nx hK112 <| wp_ret ?_
 obtain rfl:=osi H
 exact fin hk _ [(aggI .i64 u18)] rfl ⟨⟨_,rfl,run_loadA ag156 sz156 o114 lh21 hs (q:=2) rfl⟩,trivial⟩ ⟨rfl,lh21,(hs.pick [] rfl).dnil⟩
noncomputable def spec_l03Times.s1 (x0:List Int) (x1:List Int) (u28:Int) (u48:List Int) (u52:Int):Option (((List Int)×Int) ⊕ Ex ((List Int)) ((List Int))) :=
  (bif (decide (u52<5)) then (if 0≤u28∧u28<(5:Int) then (if 0≤u52∧u52<(5:Int) then (((bif (decide ((w64 (u28+u52))>4)) then (some (w64 ((w64 ((x0.getD u28.toNat 0)*(x1.getD u52.toNat 0)))*5))) else (some (w64 ((x0.getD u28.toNat 0)*(x1.getD u52.toNat 0))))):Option (Int)).bind fun u82=>(if 0≤(Int.tmod (w64 (u28+u52)) 5)∧(Int.tmod (w64 (u28+u52)) 5)<(5:Int) then (if 0≤(Int.tmod (w64 (u28+u52)) 5)∧(Int.tmod (w64 (u28+u52)) 5)<(5:Int) then (some (.inl ((u48.set (Int.tmod (w64 (u28+u52)) 5).toNat (w64 ((u48.getD (Int.tmod (w64 (u28+u52)) 5).toNat 0)+u82))),(w64 (u52+1))))) else none) else none)) else none) else none) else (some (.inr (.out u48))))
noncomputable def spec_l03Times.s0 (x0:List Int) (x1:List Int) (u24:List Int) (u28:Int):Option (((List Int)×Int) ⊕ Ex ((List Int)) ((List Int))) :=
  (bif (decide (u28<5)) then ((loopO (fun s=>spec_l03Times.s1 x0 x1 u28 s.1 s.2) (u24,0)).bind fun o=>match o with | .out u53=>(some (.inl (u53,(w64 (u28+1))))) | .ret r=>(some (.inr (.ret r)))) else (some (.inr (.out u24))))
noncomputable def spec_l03Times.f (x0:List Int) (x1:List Int):Option ((List Int)) :=
  ((loopO (fun s=>spec_l03Times.s0 x0 x1 s.1 s.2) ((List.replicate 5 (0:Int)),0)).bind fun o=>match o with | .out u29=>((spec_l03Carry.f u29).bind fun y101=>(some y101)) | .ret r=>(some r))
theorem spec_l03Times_t (w0:World) (x0:List Int) (e0_:x0.length=5) (x1:List Int) (e1_:x1.length=5) (r:(List Int)) (H:spec_l03Times.f x0 x1=some r) :
    Calls Tryz.prog 133 #[aggI .i64 x0,aggI .i64 x1] w0 (Ret (fun v w=>v=aggI .i64 r∧r.length=5∧Sat [] w0 w [] [])):=by
 have hs:=sat0 w0 [] (by simp)
 unfold spec_l03Times.f at H
 refine enter Tryz.func133 rfl Tryz.ntmps133 rfl fun a hk=>sr fun _ hK1=>sbxa 1 hs rfl hk rfl rfl rfl e0_ rfl fun b2 k3 w a hk o4 hs=>sbxa 2 hs rfl hk rfl rfl rfl e1_ rfl fun b5 k6 w a hk o7 hs=>sala 3 ((Lay.int iS)) (m:=5) (z:=0) (zc:=[vI iS 0]) hs rfl hk rfl rfl ze156 (by exact ⟨rfl,rfl⟩) rfl rfl rfl fun b8 k9 w a hk o10 hs=>?_
 have lh11:(List.replicate 5 (0:Int)).length=5:=List.length_replicate
 refine nx hK1 <| sr fun _ hK12=>sbd (pv:=[]) rfl hk rfl rfl rfl bd156_8 fun a hk=>?_
 have lh13:(List.replicate 5 (0:Int)).length=5:=List.length_replicate
 refine sala 4 ((Lay.int iS)) (m:=5) (z:=0) (zc:=[vI iS 0]) hs rfl hk rfl rfl ze156 (by exact ⟨rfl,rfl⟩) rfl rfl rfl fun b14 k15 w a hk o16 hs=>?_
 have lh17:(List.replicate 5 (0:Int)).length=5:=List.length_replicate
 refine sswa 4 (List.replicate 5 (0:Int)) hs rfl o16 lh17 lh13 rfl rfl hk rfl rfl rfl rfl sz156 fun k18 w a hk o19 hs=>nx hK12 <| sq fun _ hK20=>sr fun _ hK21=>mv hk rfl fun a hk=>nx hK21 ?_
 obtain ⟨o33,h34,HL35⟩:=bind_some H
 clear H
 obtain ⟨R36,hR36⟩:=nm fun a w=>∃ (u29:List Int) (k30:Chunk),o33 = .out u29∧Kn [(4,(vP (some ⟨b8,0,none⟩))),(5,(vP (some ⟨b14,0,none⟩)))] 42 a∧Sat [] w0 w [] [(3,k9),(4,k30)]∧Own (Lay.int iS) 156 (some ⟨b14,0,none⟩) 5 u29 k30∧u29.length=5
 refine wp_cutq R36 ?_ ?_
 ·refine wp_block ?_
  obtain ⟨fu38,h34⟩:=loopO_some h34
  obtain ⟨I37,hI37⟩:=nm fun fu a w=>∃ (u24:List Int) (u28:Int) (k25:Chunk),loopN (fun s=>spec_l03Times.s0 x0 x1 s.1 s.2) fu (u24,u28)=some o33∧Kn [(2,(vP (some ⟨b2,0,none⟩))),(3,(vP (some ⟨b5,0,none⟩))),(4,(vP (some ⟨b8,0,none⟩))),(5,(vP (some ⟨b14,0,none⟩))),(6,(vI iS u28))] 42 a∧Sat [] w0 w [] [(1,k3),(2,k6),(3,k9),(4,k25)]∧Own (Lay.int iS) 156 (some ⟨b14,0,none⟩) 5 u24 k25∧u24.length=5
  refine wp_loop_ghost I37 fu38 ?_ ?_
  ·rw [hI37]
   exact ⟨_,_,_,h34,(hk.al rfl),(hs.pick [(1,1),(2,2),(3,3),(4,4)] rfl),o19,lh13⟩
  clear h34 hk hs
  intro fu38 a w hI0
  rw [hI37] at hI0
  obtain ⟨u24,u28,k25,hi,hk,hs,o26,lh27⟩:=hI0
  obtain ⟨x39,H,h40⟩:=loop_round hi
  try dsimp only at H
  unfold spec_l03Times.s0 at H
  refine sq fun _ hK41=>sr fun _ hK42=>mv hk rfl fun a hk=>sv (.bool (decide (u28<5))) hk rfl rfl rfl fun a hk=>nx hK42 ?_
  rcases cond_some H with ⟨c43,H⟩ | ⟨c43,H⟩
  ·have hk:=hk.lit 11 c43 rfl
   refine cnd_true hk rfl rfl <| wp_skip <| hK41 _ _ <| sq fun _ hK44=>wp_block ?_
   refine sr fun _ hK45=>mv hk rfl fun a hk=>nx hK45 ?_
   obtain ⟨o57,h58,HL59⟩:=bind_some H
   clear H
   obtain ⟨R60,hR60⟩:=nm fun a w=>∃ (u53:List Int) (k54:Chunk),o57 = .out u53∧Kn [(2,(vP (some ⟨b2,0,none⟩))),(3,(vP (some ⟨b5,0,none⟩))),(4,(vP (some ⟨b8,0,none⟩))),(5,(vP (some ⟨b14,0,none⟩))),(6,(vI iS u28))] 42 a∧Sat [] w0 w [] [(1,k3),(2,k6),(3,k9),(4,k54)]∧Own (Lay.int iS) 156 (some ⟨b14,0,none⟩) 5 u53 k54∧u53.length=5
   refine wp_cutq R60 ?_ ?_
   ·refine wp_block ?_
    obtain ⟨fu62,h58⟩:=loopO_some h58
    obtain ⟨I61,hI61⟩:=nm fun fu a w=>∃ (u48:List Int) (u52:Int) (k49:Chunk),loopN (fun s=>spec_l03Times.s1 x0 x1 u28 s.1 s.2) fu (u48,u52)=some o57∧Kn [(2,(vP (some ⟨b2,0,none⟩))),(3,(vP (some ⟨b5,0,none⟩))),(4,(vP (some ⟨b8,0,none⟩))),(5,(vP (some ⟨b14,0,none⟩))),(6,(vI iS u28)),(7,(vI iS u52))] 42 a∧Sat [] w0 w [] [(1,k3),(2,k6),(3,k9),(4,k49)]∧Own (Lay.int iS) 156 (some ⟨b14,0,none⟩) 5 u48 k49∧u48.length=5
    refine wp_loop_ghost I61 fu62 ?_ ?_
    ·rw [hI61]
     exact ⟨_,_,_,h58,(hk.al rfl),(hs.pick [(1,1),(2,2),(3,3),(4,4)] rfl),o26,lh27⟩
    clear h58 hk hs
    intro fu62 a w hI0
    rw [hI61] at hI0
    obtain ⟨u48,u52,k49,hi,hk,hs,o50,lh51⟩:=hI0
    obtain ⟨x63,H,h64⟩:=loop_round hi
    try dsimp only at H
    unfold spec_l03Times.s1 at H
    refine sq fun _ hK65=>sr fun _ hK66=>mv hk rfl fun a hk=>sv (.bool (decide (u52<5))) hk rfl rfl rfl fun a hk=>nx hK66 ?_
    rcases cond_some H with ⟨c67,H⟩ | ⟨c67,H⟩
    ·have hk:=hk.lit 15 c67 rfl
     refine cnd_true hk rfl rfl <| wp_skip <| hK65 _ _ ?_
     have hs:=hs.pick [(1,1),(2,2),(3,3),(4,4)] rfl
     refine sq fun _ hK68=>wp_block <| sq fun _ hK69=>wp_region_tree (.q 0 (.q 1 (.q 2 (.alt 3 (.alt 4 (.alt 5 (.alt 6 (.last 7) .stop) .stop) .stop) .stop)))) mo (by kernel_rfl) (hs.pick [(1,1),(2,2),(3,3),(4,4)] rfl) fun _=>?_
     have hs:=hs.drew
     refine tqm hk rfl fun a hk=>?_
     obtain ⟨c71,H⟩:=ite_no H
     obtain ⟨b72,q73,hAc71⟩:=(o4.view).some_ u28 c71.1 (by rw [e0_];exact c71.2)
     refine tqst _ hk rfl rfl rfl rfl (fun w hs=>sia rfl hk rfl rfl rfl rfl un156 sz3 c71.1 c71.2 hAc71 fun a hk=>qe hk) fun a hk=>?_
     obtain ⟨_,rfl,e74⟩:=(o4.view).at_ 0 u28 c71.1 (by rw [e0_];exact c71.2)
     refine tqst _ hk rfl rfl rfl rfl (fun w hs=>sl (v:=(vI iS (x0.getD u28.toNat 0))) rfl hk rfl rfl rfl ag3 ((e74 0 _ rfl).cell (hs.hasG (k:=1) rfl)) fun a hk=>qe hk) fun a hk=>tss hs hk rfl rfl fun _ hK_r70_3 w hs=>mv hk rfl fun a hk=>se (hs.pick [(1,1),(2,2),(3,3),(4,4)] rfl) hk (hK_r70_3 _ _ ?_)
     refine tss hs hk rfl rfl fun _ hK_r70_4 w hs=>?_
     obtain ⟨c75,H⟩:=ite_no H
     obtain ⟨b76,q77,hAc75⟩:=(o7.view).some_ u52 c75.1 (by rw [e1_];exact c75.2)
     refine sia rfl hk rfl rfl rfl rfl un156 sz3 c75.1 c75.2 hAc75 fun a hk=>se (hs.pick [(1,1),(2,2),(3,3),(4,4)] rfl) hk (hK_r70_4 _ _ ?_)
     refine tss hs hk rfl rfl fun _ hK_r70_5 w hs=>?_
     obtain ⟨_,rfl,e78⟩:=(o7.view).at_ 0 u52 c75.1 (by rw [e1_];exact c75.2)
     refine sl (v:=(vI iS (x1.getD u52.toNat 0))) rfl hk rfl rfl rfl ag3 ((e78 0 _ rfl).cell (hs.hasG (k:=2) rfl)) fun a hk=>se (hs.pick [(1,1),(2,2),(3,3),(4,4)] rfl) hk (hK_r70_5 _ _ ?_)
     refine tss hs hk rfl rfl fun _ hK_r70_6 w hs=>sv (vI iS (w64 ((x0.getD u28.toNat 0)*(x1.getD u52.toNat 0)))) hk rfl rfl rfl fun a hk=>se (hs.pick [(1,1),(2,2),(3,3),(4,4)] rfl) hk (hK_r70_6 _ _ ?_)
     refine tlst hk rfl rfl fun K_r70_7 hK_r70_7 w hF=>?_
     have hs:=hs.f hF
     refine mv hk rfl fun a hk=>se trivial hk (hK_r70_7 _ _ fun w hF=>?_)
     have hs:=hs.f hF
     refine hK69 _ _ <| sq fun _ hK79=>sr fun _ hK80=>mv hk rfl fun a hk=>mv hk rfl fun a hk=>sv (vI iS (w64 (u28+u52))) hk rfl rfl rfl fun a hk=>sv (.bool (decide ((w64 (u28+u52))>4))) hk rfl rfl rfl fun a hk=>nx hK80 ?_
     obtain ⟨o83,h84,HL85⟩:=bind_some H
     clear H
     obtain ⟨R86,hR86⟩:=nm fun a w=>∃ (u82:Int),u82=o83∧Kn [(2,(vP (some ⟨b2,0,none⟩))),(3,(vP (some ⟨b5,0,none⟩))),(4,(vP (some ⟨b8,0,none⟩))),(5,(vP (some ⟨b14,0,none⟩))),(6,(vI iS u28)),(7,(vI iS u52)),(8,(vI iS u82))] 42 a∧Sat [] w0 w [] [(1,k3),(2,k6),(3,k9),(4,k49)]
     refine wp_cutq R86 ?_ ?_
     ·have H:=h84
      rcases cond_some H with ⟨c87,H⟩ | ⟨c87,H⟩
      ·have hk:=hk.lit 28 c87 rfl
       refine cnd_true hk rfl rfl ?_
       apply wp_region_lit
       refine mv hk rfl fun a hk=>sv (vI iS (w64 ((w64 ((x0.getD u28.toNat 0)*(x1.getD u52.toNat 0)))*5))) hk rfl rfl rfl fun a hk=>mv hk rfl fun a hk=>?_
       show wpList _ _ _ [] _ _
       refine wpList_nil ?_
       obtain rfl:=osi H
       show R86 _ _
       rw [hR86]
       exact ⟨(w64 ((w64 ((x0.getD u28.toNat 0)*(x1.getD u52.toNat 0)))*5)),rfl,(hk.al rfl),(hs.pick [(1,1),(2,2),(3,3),(4,4)] rfl)⟩
      have hk:=hk.lit 28 c87 rfl
      refine cnd_false hk rfl rfl <| wp_skip ?_
      obtain rfl:=osi H
      show R86 _ _
      rw [hR86]
      exact ⟨(w64 ((x0.getD u28.toNat 0)*(x1.getD u52.toNat 0))),rfl,(hk.al rfl),(hs.pick [(1,1),(2,2),(3,3),(4,4)] rfl)⟩
     intro a w hR0
     rw [hR86] at hR0
     obtain ⟨u82,rfl,hk,hs⟩:=hR0
     have H:=HL85
     try dsimp only at H
     refine hK79 _ _ ?_
     apply wp_region_lit
     refine mv hk rfl fun a hk=>mv hk rfl fun a hk=>sv (vI iS (w64 (u28+u52))) hk rfl rfl rfl fun a hk=>sv (vI iS (Int.tmod (w64 (u28+u52)) 5)) hk rfl rfl rfl fun a hk=>?_
     obtain ⟨c88,H⟩:=ite_no H
     obtain ⟨b89,q90,hAc88⟩:=(o50.view).some_ (Int.tmod (w64 (u28+u52)) 5) c88.1 (by rw [lh51];exact c88.2)
     refine sia rfl hk rfl rfl rfl rfl un156 sz3 c88.1 c88.2 hAc88 fun a hk=>?_
     obtain ⟨_,rfl,e91⟩:=(o50.view).at_ 0 (Int.tmod (w64 (u28+u52)) 5) c88.1 (by rw [lh51];exact c88.2)
     refine sl (v:=(vI iS (u48.getD (Int.tmod (w64 (u28+u52)) 5).toNat 0))) rfl hk rfl rfl rfl ag3 ((e91 0 _ rfl).cell (hs.hasG (k:=4) rfl)) fun a hk=>mv hk rfl fun a hk=>sv (vI iS (w64 ((u48.getD (Int.tmod (w64 (u28+u52)) 5).toNat 0)+u82))) hk rfl rfl rfl fun a hk=>?_
     obtain ⟨c92,H⟩:=ite_no H
     obtain ⟨b93,q94,hAc92⟩:=(o50.view).some_ (Int.tmod (w64 (u28+u52)) 5) c92.1 (by rw [lh51];exact c92.2)
     refine sia rfl hk rfl rfl rfl rfl un156 sz3 c92.1 c92.2 hAc92 fun a hk=>so (j:=0) 4 0 (w64 ((u48.getD (Int.tmod (w64 (u28+u52)) 5).toNat 0)+u82)) hs rfl o50 c92.1 (by rw [lh51];exact c92.2) rfl hk rfl rfl rfl rfl rfl sz3 (by simp [Value.cells,Value.oneCell']) (Nat.le_of_ble_eq_true rfl) (fun _ _ h=>⟨by rw [h.1];rfl,h.2⟩) fun k95 w a hk o96 hs=>?_
     have lh97:(u48.set (Int.tmod (w64 (u28+u52)) 5).toNat (w64 ((u48.getD (Int.tmod (w64 (u28+u52)) 5).toNat 0)+u82))).length=5:=by rw [List.length_set];exact lh51
     refine nx hK68 ?_
     apply wp_region_lit
     refine mv hk rfl fun a hk=>sv (vI iS (w64 (u52+1))) hk rfl rfl rfl fun a hk=>mv hk rfl fun a hk=>?_
     show wpList _ _ _ [] _ _
     refine wpList_nil ?_
     obtain rfl:=osi H
     obtain ⟨m98,hmm98,h64⟩:=h64
     show ∃ n',n'<_∧I61 n' _ _
     refine ⟨m98,hmm98,?_⟩
     rw [hI61]
     exact ⟨_,_,_,h64,(hk.al rfl),(hs.pick [(1,1),(2,2),(3,3),(4,4)] rfl),o96,lh97⟩
    have hk:=hk.lit 15 c67 rfl
    refine cnd_false hk rfl rfl <| wp_exit ?_
    obtain rfl:=osi H
    show R60 _ _
    rw [hR60]
    exact ⟨_,_,h64.symm,(hk.al rfl),(hs.pick [(1,1),(2,2),(3,3),(4,4)] rfl),o50,lh51⟩
   intro a w hR0
   rw [hR60] at hR0
   obtain ⟨u53,k54,rfl,hk,hs,o55,lh56⟩:=hR0
   have H:=HL59
   try dsimp only at H
   refine hK44 _ _ ?_
   apply wp_region_lit
   refine mv hk rfl fun a hk=>sv (vI iS (w64 (u28+1))) hk rfl rfl rfl fun a hk=>mv hk rfl fun a hk=>?_
   show wpList _ _ _ [] _ _
   refine wpList_nil ?_
   obtain rfl:=osi H
   obtain ⟨m99,hmm99,h40⟩:=h40
   show ∃ n',n'<_∧I37 n' _ _
   refine ⟨m99,hmm99,?_⟩
   rw [hI37]
   exact ⟨_,_,_,h40,(hk.al rfl),(hs.pick [(1,1),(2,2),(3,3),(4,4)] rfl),o55,lh56⟩
  have hk:=hk.lit 11 c43 rfl
  refine cnd_false hk rfl rfl <| wp_exit ?_
  obtain rfl:=osi H
  show R36 _ _
  rw [hR36]
  exact ⟨_,_,h40.symm,(hk.al rfl),(hs.pick [(3,3),(4,4)] rfl),o26,lh27⟩
 intro a w hR0
 rw [hR36] at hR0
 obtain ⟨u29,k30,rfl,hk,hs,o31,lh32⟩:=hR0
 have H:=HL35
 try dsimp only at H
 refine hK20 _ _ <| sr fun _ hK100=>slna (k:=4) hs rfl o31 lh32 rfl hk rfl rfl rfl ag156 sz156 fun a hk=>?_
 obtain ⟨y101,h102,H⟩:=bind_some H
 refine sc rfl en135 hk rfl rfl rfl (spec_l03Carry_t _ u29 lh32 _ h102) ?_
 rintro _ w ⟨rfl,lh103,hG⟩ a hk
 have hs:=hs.call0 hG
 refine sswa 3 y101 hs rfl o10 lh11 lh103 rfl rfl hk rfl rfl rfl rfl sz156 fun k104 w a hk o105 hs=>nx hK100 <| wp_ret ?_
 obtain rfl:=osi H
 exact fin hk _ [(aggI .i64 y101)] rfl ⟨⟨_,rfl,run_loadA ag156 sz156 o105 lh103 hs (q:=3) rfl⟩,trivial⟩ ⟨rfl,lh103,(hs.pick [] rfl).dnil⟩
noncomputable def spec_l03Less.s0  (u31:List Int) (u35:Int):Option (((List Int)×Int) ⊕ Ex ((List Int)) ((List Int))) :=
  (bif (decide (u35<4)) then (if 0≤(w64 (u35+1))∧(w64 (u35+1))<(5:Int) then (if 0≤u35∧u35<(5:Int) then (if 0≤(w64 (u35+1))∧(w64 (u35+1))<(5:Int) then (if 0≤u35∧u35<(5:Int) then (if 0≤u35∧u35<(5:Int) then (some (.inl (((u31.set (w64 (u35+1)).toNat (w64 ((u31.getD (w64 (u35+1)).toNat 0)+(Int.fdiv (u31.getD u35.toNat 0) (2 ^ 26))))).set u35.toNat (wR iS ((bO 64 ((u31.set (w64 (u35+1)).toNat (w64 ((u31.getD (w64 (u35+1)).toNat 0)+(Int.fdiv (u31.getD u35.toNat 0) (2 ^ 26))))).getD u35.toNat 0) &&& bO 64 67108863).toNat:Int))),(w64 (u35+1))))) else none) else none) else none) else none) else none) else (some (.inr (.out u31))))
noncomputable def spec_l03Less.f (x0:List Int):Option ((List Int)) :=
  (if 0≤(0:Int)∧(0:Int)<(5:Int) then (if 0≤(0:Int)∧(0:Int)<(5:Int) then ((loopO (fun s=>spec_l03Less.s0  s.1 s.2) ((x0.set (0:Int).toNat (w64 ((x0.getD (0:Int).toNat 0)+5))),0)).bind fun o=>match o with | .out u36=>(if 0≤(4:Int)∧(4:Int)<(5:Int) then (bif ((Int.fdiv (u36.getD (4:Int).toNat 0) (2 ^ 26))==0) then (some x0) else (if 0≤(4:Int)∧(4:Int)<(5:Int) then (if 0≤(4:Int)∧(4:Int)<(5:Int) then (some (u36.set (4:Int).toNat (wR iS ((bO 64 (u36.getD (4:Int).toNat 0) &&& bO 64 67108863).toNat:Int)))) else none) else none)) else none) | .ret r=>(some r)) else none) else none)
theorem spec_l03Less_t (w0:World) (x0:List Int) (e0_:x0.length=5) (r:(List Int)) (H:spec_l03Less.f x0=some r) :
    Calls Tryz.prog 134 #[aggI .i64 x0] w0 (Ret (fun v w=>v=aggI .i64 r∧r.length=5∧Sat [] w0 w [] [])):=by
 have hs:=sat0 w0 [] (by simp)
 unfold spec_l03Less.f at H
 refine enter Tryz.func134 rfl Tryz.ntmps134 rfl fun a hk=>sr fun _ hK1=>sbxa 1 hs rfl hk rfl rfl rfl e0_ rfl fun b2 k3 w a hk o4 hs=>sala 2 ((Lay.int iS)) (m:=5) (z:=0) (zc:=[vI iS 0]) hs rfl hk rfl rfl ze156 (by exact ⟨rfl,rfl⟩) rfl rfl rfl fun b5 k6 w a hk o7 hs=>?_
 have lh8:(List.replicate 5 (0:Int)).length=5:=List.length_replicate
 refine nx hK1 <| sr fun _ hK9=>slna (k:=1) hs rfl o4 e0_ rfl hk rfl rfl rfl ag156 sz156 fun a hk=>sala 3 ((Lay.int iS)) (m:=5) (z:=0) (zc:=[vI iS 0]) hs rfl hk rfl rfl ze156 (by exact ⟨rfl,rfl⟩) rfl rfl rfl fun b10 k11 w a hk o12 hs=>?_
 have lh13:(List.replicate 5 (0:Int)).length=5:=List.length_replicate
 refine sswa 3 x0 hs rfl o12 lh13 e0_ rfl rfl hk rfl rfl rfl rfl sz156 fun k14 w a hk o15 hs=>nx hK9 <| sr fun _ hK16=>?_
 obtain ⟨c17,H⟩:=ite_no H
 obtain ⟨b18,q19,hAc17⟩:=(o15.view).some_ (0:Int) c17.1 (by rw [e0_];exact c17.2)
 refine sia rfl hk rfl rfl rfl rfl un156 sz3 c17.1 c17.2 hAc17 fun a hk=>?_
 obtain ⟨_,rfl,e20⟩:=(o15.view).at_ 0 (0:Int) c17.1 (by rw [e0_];exact c17.2)
 refine sl (v:=(vI iS (x0.getD (0:Int).toNat 0))) rfl hk rfl rfl rfl ag3 ((e20 0 _ rfl).cell (hs.hasG (k:=3) rfl)) fun a hk=>sv (vI iS (w64 ((x0.getD (0:Int).toNat 0)+5))) hk rfl rfl rfl fun a hk=>?_
 obtain ⟨c21,H⟩:=ite_no H
 obtain ⟨b22,q23,hAc21⟩:=(o15.view).some_ (0:Int) c21.1 (by rw [e0_];exact c21.2)
 refine sia rfl hk rfl rfl rfl rfl un156 sz3 c21.1 c21.2 hAc21 fun a hk=>so (j:=0) 3 0 (w64 ((x0.getD (0:Int).toNat 0)+5)) hs rfl o15 c21.1 (by rw [e0_];exact c21.2) rfl hk rfl rfl rfl rfl rfl sz3 (by simp [Value.cells,Value.oneCell']) (Nat.le_of_ble_eq_true rfl) (fun _ _ h=>⟨by rw [h.1];rfl,h.2⟩) fun k24 w a hk o25 hs=>?_
 have lh26:(x0.set (0:Int).toNat (w64 ((x0.getD (0:Int).toNat 0)+5))).length=5:=by rw [List.length_set];exact e0_
 refine nx hK16 <| sq fun _ hK27=>sr fun _ hK28=>mv hk rfl fun a hk=>nx hK28 ?_
 obtain ⟨o40,h41,HL42⟩:=bind_some H
 clear H
 obtain ⟨R43,hR43⟩:=nm fun a w=>∃ (u36:List Int) (k37:Chunk),o40 = .out u36∧Kn [(1,(vP (some ⟨b2,0,none⟩))),(2,(vP (some ⟨b5,0,none⟩))),(3,(vP (some ⟨b10,0,none⟩)))] 39 a∧Sat [] w0 w [] [(1,k3),(2,k6),(3,k37)]∧Own (Lay.int iS) 156 (some ⟨b10,0,none⟩) 5 u36 k37∧u36.length=5
 refine wp_cutq R43 ?_ ?_
 ·refine wp_block ?_
  obtain ⟨fu45,h41⟩:=loopO_some h41
  obtain ⟨I44,hI44⟩:=nm fun fu a w=>∃ (u31:List Int) (u35:Int) (k32:Chunk),loopN (fun s=>spec_l03Less.s0  s.1 s.2) fu (u31,u35)=some o40∧Kn [(1,(vP (some ⟨b2,0,none⟩))),(2,(vP (some ⟨b5,0,none⟩))),(3,(vP (some ⟨b10,0,none⟩))),(4,(vI iS u35))] 39 a∧Sat [] w0 w [] [(1,k3),(2,k6),(3,k32)]∧Own (Lay.int iS) 156 (some ⟨b10,0,none⟩) 5 u31 k32∧u31.length=5
  refine wp_loop_ghost I44 fu45 ?_ ?_
  ·rw [hI44]
   exact ⟨_,_,_,h41,(hk.al rfl),(hs.pick [(1,1),(2,2),(3,3)] rfl),o25,lh26⟩
  clear h41 hk hs
  intro fu45 a w hI0
  rw [hI44] at hI0
  obtain ⟨u31,u35,k32,hi,hk,hs,o33,lh34⟩:=hI0
  obtain ⟨x46,H,h47⟩:=loop_round hi
  try dsimp only at H
  unfold spec_l03Less.s0 at H
  refine sq fun _ hK48=>sr fun _ hK49=>mv hk rfl fun a hk=>sv (.bool (decide (u35<4))) hk rfl rfl rfl fun a hk=>nx hK49 ?_
  rcases cond_some H with ⟨c50,H⟩ | ⟨c50,H⟩
  ·have hk:=hk.lit 11 c50 rfl
   refine cnd_true hk rfl rfl <| wp_skip <| hK48 _ _ <| sq fun _ hK51=>wp_block ?_
   refine sq fun _ hK52=>wp_region_tree (.q 0 (.q 1 (.q 2 (.q 3 (.alt 4 (.alt 5 (.alt 6 (.alt 7 (.alt 8 (.alt 9 (.last 10) .stop) .stop) .stop) .stop) .stop) .stop))))) mo (by kernel_rfl) (hs.pick [(1,1),(2,2),(3,3)] rfl) fun _=>?_
   have hs:=hs.drew
   refine tqm hk rfl fun a hk=>tqv (vI iS (w64 (u35+1))) hk rfl rfl (fun _=>rfl) fun a hk=>?_
   obtain ⟨c54,H⟩:=ite_no H
   obtain ⟨b55,q56,hAc54⟩:=(o33.view).some_ (w64 (u35+1)) c54.1 (by rw [lh34];exact c54.2)
   refine tqst _ hk rfl rfl rfl rfl (fun w hs=>sia rfl hk rfl rfl rfl rfl un156 sz3 c54.1 c54.2 hAc54 fun a hk=>qe hk) fun a hk=>?_
   obtain ⟨_,rfl,e57⟩:=(o33.view).at_ 0 (w64 (u35+1)) c54.1 (by rw [lh34];exact c54.2)
   refine tqst _ hk rfl rfl rfl rfl (fun w hs=>sl (v:=(vI iS (u31.getD (w64 (u35+1)).toNat 0))) rfl hk rfl rfl rfl ag3 ((e57 0 _ rfl).cell (hs.hasG (k:=3) rfl)) fun a hk=>qe hk) fun a hk=>tss hs hk rfl rfl fun _ hK_r53_4 w hs=>mv hk rfl fun a hk=>se (hs.pick [(1,1),(2,2),(3,3)] rfl) hk (hK_r53_4 _ _ ?_)
   refine tss hs hk rfl rfl fun _ hK_r53_5 w hs=>?_
   obtain ⟨c58,H⟩:=ite_no H
   obtain ⟨b59,q60,hAc58⟩:=(o33.view).some_ u35 c58.1 (by rw [lh34];exact c58.2)
   refine sia rfl hk rfl rfl rfl rfl un156 sz3 c58.1 c58.2 hAc58 fun a hk=>se (hs.pick [(1,1),(2,2),(3,3)] rfl) hk (hK_r53_5 _ _ ?_)
   refine tss hs hk rfl rfl fun _ hK_r53_6 w hs=>?_
   obtain ⟨_,rfl,e61⟩:=(o33.view).at_ 0 u35 c58.1 (by rw [lh34];exact c58.2)
   refine sl (v:=(vI iS (u31.getD u35.toNat 0))) rfl hk rfl rfl rfl ag3 ((e61 0 _ rfl).cell (hs.hasG (k:=3) rfl)) fun a hk=>se (hs.pick [(1,1),(2,2),(3,3)] rfl) hk (hK_r53_6 _ _ ?_)
   refine tss hs hk rfl rfl fun _ hK_r53_7 w hs=>sv (vI iS (Int.fdiv (u31.getD u35.toNat 0) (2 ^ 26))) hk rfl rfl rfl fun a hk=>se (hs.pick [(1,1),(2,2),(3,3)] rfl) hk (hK_r53_7 _ _ ?_)
   refine tss hs hk rfl rfl fun _ hK_r53_8 w hs=>sv (vI iS (w64 ((u31.getD (w64 (u35+1)).toNat 0)+(Int.fdiv (u31.getD u35.toNat 0) (2 ^ 26))))) hk rfl rfl rfl fun a hk=>se (hs.pick [(1,1),(2,2),(3,3)] rfl) hk (hK_r53_8 _ _ ?_)
   refine tss hs hk rfl rfl fun _ hK_r53_9 w hs=>?_
   obtain ⟨c62,H⟩:=ite_no H
   obtain ⟨b63,q64,hAc62⟩:=(o33.view).some_ (w64 (u35+1)) c62.1 (by rw [lh34];exact c62.2)
   refine sia rfl hk rfl rfl rfl rfl un156 sz3 c62.1 c62.2 hAc62 fun a hk=>se (hs.pick [(1,1),(2,2),(3,3)] rfl) hk (hK_r53_9 _ _ ?_)
   refine tlst hk rfl rfl fun K_r53_10 hK_r53_10 w hF=>?_
   have hs:=hs.f hF
   refine so (j:=0) 3 0 (w64 ((u31.getD (w64 (u35+1)).toNat 0)+(Int.fdiv (u31.getD u35.toNat 0) (2 ^ 26)))) hs rfl o33 c62.1 (by rw [lh34];exact c62.2) rfl hk rfl rfl rfl rfl rfl sz3 (by simp [Value.cells,Value.oneCell']) (Nat.le_of_ble_eq_true rfl) (fun _ _ h=>⟨by rw [h.1];rfl,h.2⟩) fun k65 w a hk o66 hs=>?_
   have lh67:(u31.set (w64 (u35+1)).toNat (w64 ((u31.getD (w64 (u35+1)).toNat 0)+(Int.fdiv (u31.getD u35.toNat 0) (2 ^ 26))))).length=5:=by rw [List.length_set];exact lh34
   refine se trivial hk (hK_r53_10 _ _ fun w hF=>?_)
   have hs:=hs.f hF
   refine hK52 _ _ ?_
   apply wp_region_lit
   refine mv hk rfl fun a hk=>?_
   obtain ⟨c68,H⟩:=ite_no H
   obtain ⟨b69,q70,hAc68⟩:=(o66.view).some_ u35 c68.1 (by rw [lh67];exact c68.2)
   refine sia rfl hk rfl rfl rfl rfl un156 sz3 c68.1 c68.2 hAc68 fun a hk=>?_
   obtain ⟨_,rfl,e71⟩:=(o66.view).at_ 0 u35 c68.1 (by rw [lh67];exact c68.2)
   refine sl (v:=(vI iS ((u31.set (w64 (u35+1)).toNat (w64 ((u31.getD (w64 (u35+1)).toNat 0)+(Int.fdiv (u31.getD u35.toNat 0) (2 ^ 26))))).getD u35.toNat 0))) rfl hk rfl rfl rfl ag3 ((e71 0 _ rfl).cell (hs.hasG (k:=3) rfl)) fun a hk=>sv (vI iS (bia6 ((u31.set (w64 (u35+1)).toNat (w64 ((u31.getD (w64 (u35+1)).toNat 0)+(Int.fdiv (u31.getD u35.toNat 0) (2 ^ 26))))).getD u35.toNat 0) 67108863)) hk rfl rfl rfl fun a hk=>?_
   obtain ⟨c72,H⟩:=ite_no H
   obtain ⟨b73,q74,hAc72⟩:=(o66.view).some_ u35 c72.1 (by rw [lh67];exact c72.2)
   refine sia rfl hk rfl rfl rfl rfl un156 sz3 c72.1 c72.2 hAc72 fun a hk=>so (j:=0) 3 0 (bia6 ((u31.set (w64 (u35+1)).toNat (w64 ((u31.getD (w64 (u35+1)).toNat 0)+(Int.fdiv (u31.getD u35.toNat 0) (2 ^ 26))))).getD u35.toNat 0) 67108863) hs rfl o66 c72.1 (by rw [lh67];exact c72.2) rfl hk rfl rfl rfl rfl rfl sz3 (by simp [Value.cells,Value.oneCell']) (Nat.le_of_ble_eq_true rfl) (fun _ _ h=>⟨by rw [h.1];rfl,h.2⟩) fun k75 w a hk o76 hs=>?_
   have lh77:((u31.set (w64 (u35+1)).toNat (w64 ((u31.getD (w64 (u35+1)).toNat 0)+(Int.fdiv (u31.getD u35.toNat 0) (2 ^ 26))))).set u35.toNat (bia6 ((u31.set (w64 (u35+1)).toNat (w64 ((u31.getD (w64 (u35+1)).toNat 0)+(Int.fdiv (u31.getD u35.toNat 0) (2 ^ 26))))).getD u35.toNat 0) 67108863)).length=5:=by rw [List.length_set];exact lh67
   refine nx hK51 ?_
   have hs:=hs.pick [(1,1),(2,2),(3,3)] rfl
   apply wp_region_lit
   refine mv hk rfl fun a hk=>sv (vI iS (w64 (u35+1))) hk rfl rfl rfl fun a hk=>mv hk rfl fun a hk=>?_
   show wpList _ _ _ [] _ _
   refine wpList_nil ?_
   obtain rfl:=osi H
   obtain ⟨m78,hmm78,h47⟩:=h47
   show ∃ n',n'<_∧I44 n' _ _
   refine ⟨m78,hmm78,?_⟩
   rw [hI44]
   exact ⟨_,_,_,h47,(hk.al rfl),(hs.pick [(1,1),(2,2),(3,3)] rfl),o76,lh77⟩
  have hk:=hk.lit 11 c50 rfl
  refine cnd_false hk rfl rfl <| wp_exit ?_
  obtain rfl:=osi H
  show R43 _ _
  rw [hR43]
  exact ⟨_,_,h47.symm,(hk.al rfl),(hs.pick [(1,1),(2,2),(3,3)] rfl),o33,lh34⟩
 intro a w hR0
 rw [hR43] at hR0
 obtain ⟨u36,k37,rfl,hk,hs,o38,lh39⟩:=hR0
 have H:=HL42
 try dsimp only at H
 refine hK27 _ _ <| sq fun _ hK79=>sr fun _ hK80=>?_
 obtain ⟨c81,H⟩:=ite_no H
 obtain ⟨b82,q83,hAc81⟩:=(o38.view).some_ (4:Int) c81.1 (by rw [lh39];exact c81.2)
 refine sia rfl hk rfl rfl rfl rfl un156 sz3 c81.1 c81.2 hAc81 fun a hk=>?_
 obtain ⟨_,rfl,e84⟩:=(o38.view).at_ 0 (4:Int) c81.1 (by rw [lh39];exact c81.2)
 refine sl (v:=(vI iS (u36.getD (4:Int).toNat 0))) rfl hk rfl rfl rfl ag3 ((e84 0 _ rfl).cell (hs.hasG (k:=3) rfl)) fun a hk=>sv (vI iS (Int.fdiv (u36.getD (4:Int).toNat 0) (2 ^ 26))) hk rfl rfl rfl fun a hk=>sv (.bool ((Int.fdiv (u36.getD (4:Int).toNat 0) (2 ^ 26))==0)) hk rfl rfl rfl fun a hk=>nx hK80 ?_
 rcases cond_some H with ⟨c85,H⟩ | ⟨c85,H⟩
 ·have hk:=hk.lit 32 c85 rfl
  refine cnd_true hk rfl rfl <| sr fun _ hK86=>slna (k:=1) hs rfl o4 e0_ rfl hk rfl rfl rfl ag156 sz156 fun a hk=>sswa 2 x0 hs rfl o7 lh8 e0_ rfl rfl hk rfl rfl rfl rfl sz156 fun k87 w a hk o88 hs=>nx hK86 <| wp_ret ?_
  obtain rfl:=osi H
  exact fin hk _ [(aggI .i64 x0)] rfl ⟨⟨_,rfl,run_loadA ag156 sz156 o88 e0_ hs (q:=2) rfl⟩,trivial⟩ ⟨rfl,e0_,(hs.pick [] rfl).dnil⟩
 have hk:=hk.lit 32 c85 rfl
 refine cnd_false hk rfl rfl <| wp_skip <| hK79 _ _ <| sr fun _ hK89=>?_
 obtain ⟨c90,H⟩:=ite_no H
 obtain ⟨b91,q92,hAc90⟩:=(o38.view).some_ (4:Int) c90.1 (by rw [lh39];exact c90.2)
 refine sia rfl hk rfl rfl rfl rfl un156 sz3 c90.1 c90.2 hAc90 fun a hk=>?_
 obtain ⟨_,rfl,e93⟩:=(o38.view).at_ 0 (4:Int) c90.1 (by rw [lh39];exact c90.2)
 refine sl (v:=(vI iS (u36.getD (4:Int).toNat 0))) rfl hk rfl rfl rfl ag3 ((e93 0 _ rfl).cell (hs.hasG (k:=3) rfl)) fun a hk=>sv (vI iS (bia6 (u36.getD (4:Int).toNat 0) 67108863)) hk rfl rfl rfl fun a hk=>?_
 obtain ⟨c94,H⟩:=ite_no H
 obtain ⟨b95,q96,hAc94⟩:=(o38.view).some_ (4:Int) c94.1 (by rw [lh39];exact c94.2)
 refine sia rfl hk rfl rfl rfl rfl un156 sz3 c94.1 c94.2 hAc94 fun a hk=>so (j:=0) 3 0 (bia6 (u36.getD (4:Int).toNat 0) 67108863) hs rfl o38 c94.1 (by rw [lh39];exact c94.2) rfl hk rfl rfl rfl rfl rfl sz3 (by simp [Value.cells,Value.oneCell']) (Nat.le_of_ble_eq_true rfl) (fun _ _ h=>⟨by rw [h.1];rfl,h.2⟩) fun k97 w a hk o98 hs=>?_
 have lh99:(u36.set (4:Int).toNat (bia6 (u36.getD (4:Int).toNat 0) 67108863)).length=5:=by rw [List.length_set];exact lh39
 refine nx hK89 ?_
 have hs:=hs.pick [(2,2),(3,3)] rfl
 refine sr fun _ hK100=>slna (k:=3) hs rfl o98 lh99 rfl hk rfl rfl rfl ag156 sz156 fun a hk=>sswa 2 (u36.set (4:Int).toNat (bia6 (u36.getD (4:Int).toNat 0) 67108863)) hs rfl o7 lh8 lh99 rfl rfl hk rfl rfl rfl rfl sz156 fun k101 w a hk o102 hs=>nx hK100 <| wp_ret ?_
 obtain rfl:=osi H
 exact fin hk _ [(aggI .i64 (u36.set (4:Int).toNat (bia6 (u36.getD (4:Int).toNat 0) 67108863)))] rfl ⟨⟨_,rfl,run_loadA ag156 sz156 o102 lh99 hs (q:=2) rfl⟩,trivial⟩ ⟨rfl,lh99,(hs.pick [] rfl).dnil⟩
noncomputable def spec_l03Tag.s1  (u54:ByteArray):Option ((ByteArray) ⊕ Ex (ByteArray) (ByteArray)) :=
  (bif (decide ((u54.size:Int)<17)) then (if u54.size+(⟨#[0]⟩:ByteArray).size≤1152921504606846976 then (some (.inl (u54++(⟨#[0]⟩:ByteArray)))) else none) else (some (.inr (.out u54))))
noncomputable def spec_l03Tag.s2 (y70:(List Int)) (u83:List Int) (u87:Int):Option (((List Int)×Int) ⊕ Ex ((List Int)) (ByteArray)) :=
  (bif (decide (u87<5)) then (if 0≤u87∧u87<(5:Int) then (if 0≤u87∧u87<(5:Int) then (if 0≤u87∧u87<(5:Int) then (some (.inl ((u83.set u87.toNat (w64 ((u83.getD u87.toNat 0)+(y70.getD u87.toNat 0)))),(w64 (u87+1))))) else none) else none) else none) else (some (.inr (.out u83))))
noncomputable def spec_l03Tag.s0 (x1:ByteArray) (y6:(List Int)) (u27:List Int) (u31:Int):Option (((List Int)×Int) ⊕ Ex ((List Int)) (ByteArray)) :=
  (bif (decide (u31<(x1.size:Int))) then (if 0≤u31∧u31≤(if (w64 (u31+16))<(x1.size:Int) then (w64 (u31+16)) else (x1.size:Int))∧(if (w64 (u31+16))<(x1.size:Int) then (w64 (u31+16)) else (x1.size:Int))≤(x1.size:Int) then (if (x1.extract u31.toNat (if (w64 (u31+16))<(x1.size:Int) then (w64 (u31+16)) else (x1.size:Int)).toNat).size+(⟨#[1]⟩:ByteArray).size≤1152921504606846976 then ((loopO (fun s=>spec_l03Tag.s1  s) ((x1.extract u31.toNat (if (w64 (u31+16))<(x1.size:Int) then (w64 (u31+16)) else (x1.size:Int)).toNat)++(⟨#[1]⟩:ByteArray))).bind fun o=>match o with | .out u55=>((spec_l03Parts.f u55).bind fun y70=>((loopO (fun s=>spec_l03Tag.s2 y70 s.1 s.2) (u27,0)).bind fun o=>match o with | .out u88=>((spec_l03Times.f u88 y6).bind fun y120=>(some (.inl (y120,(w64 (u31+16)))))) | .ret r=>(some (.inr (.ret r))))) | .ret r=>(some (.inr (.ret r)))) else none) else none) else (some (.inr (.out u27))))
noncomputable def spec_l03Tag.s3 (x0:ByteArray) (y130:(List Int)) (u150:List Int) (u148:Int) (u149:Int):Option (((List Int)×Int×Int) ⊕ Ex ((List Int)) (ByteArray)) :=
  (bif (decide (u149<16)) then (if 0≤(wR iS (Int.tdiv (w64 (8*u149)) 26))∧(wR iS (Int.tdiv (w64 (8*u149)) 26))<(5:Int) then (if 0≤(Int.tmod (w64 (8*u149)) 26) then (((bif (decide ((Int.tmod (w64 (8*u149)) 26)>18)) then (if 0≤(w64 ((wR iS (Int.tdiv (w64 (8*u149)) 26))+1))∧(w64 ((wR iS (Int.tdiv (w64 (8*u149)) 26))+1))<(5:Int) then (if 0≤(w64 (26-(Int.tmod (w64 (8*u149)) 26))) then (some (w64 ((Int.fdiv (y130.getD (wR iS (Int.tdiv (w64 (8*u149)) 26)).toNat 0) (2 ^ min (Int.tmod (w64 (8*u149)) 26).toNat 64))+(wR iS ((y130.getD (w64 ((wR iS (Int.tdiv (w64 (8*u149)) 26))+1)).toNat 0)*2 ^ min (w64 (26-(Int.tmod (w64 (8*u149)) 26))).toNat 64))))) else none) else none) else (some (Int.fdiv (y130.getD (wR iS (Int.tdiv (w64 (8*u149)) 26)).toNat 0) (2 ^ min (Int.tmod (w64 (8*u149)) 26).toNat 64)))):Option (Int)).bind fun u182=>(if 0≤(w64 (16+u149))∧(w64 (16+u149))<(x0.size:Int) then (if u150.length+([(wR iB (w64 (u148+(w64 ((wR iS ((bO 64 u182 &&& bO 64 255).toNat:Int))+(wR iS (byteAt x0 (w64 (16+u149)))))))))]).length≤1073741824 then (some (.inl ((u150++([(wR iB (w64 (u148+(w64 ((wR iS ((bO 64 u182 &&& bO 64 255).toNat:Int))+(wR iS (byteAt x0 (w64 (16+u149)))))))))])),(Int.fdiv (w64 (u148+(w64 ((wR iS ((bO 64 u182 &&& bO 64 255).toNat:Int))+(wR iS (byteAt x0 (w64 (16+u149)))))))) (2 ^ 8)),(w64 (u149+1))))) else none) else none)) else none) else none) else (some (.inr (.out u150))))
noncomputable def spec_l03Tag.f (x0:ByteArray) (x1:ByteArray):Option (ByteArray) :=
  ((spec_l03Clamp.f x0).bind fun y3=>(if y3.size+(⟨#[0]⟩:ByteArray).size≤1152921504606846976 then ((spec_l03Parts.f (y3++(⟨#[0]⟩:ByteArray))).bind fun y6=>((loopO (fun s=>spec_l03Tag.s0 x1 y6 s.1 s.2) ((List.replicate 5 (0:Int)),0)).bind fun o=>match o with | .out u32=>((spec_l03Carry.f u32).bind fun y127=>((spec_l03Less.f y127).bind fun y130=>((loopO (fun s=>spec_l03Tag.s3 x0 y130 s.1 s.2.1 s.2.2) (([]:List Int),0,0)).bind fun o=>match o with | .out u155=>(some (strOfNums u155)) | .ret r=>(some r)))) | .ret r=>(some r))) else none))
theorem spec_l03Tag_t (w0:World) (x0:ByteArray) (x1:ByteArray) (r:ByteArray) (H:spec_l03Tag.f x0 x1=some r) :
    Calls Tryz.prog 111 #[vS x0,vS x1] w0 (Ret (fun v w=>v=vS r∧Sat [] w0 w [] [])):=by
 have hs:=sat0 w0 [] (by simp)
 unfold spec_l03Tag.f at H
 refine enter Tryz.func111 rfl Tryz.ntmps111 rfl fun a hk=>sr fun _ hK1=>mv hk rfl fun a hk=>nx hK1 <| sr fun _ hK2=>mv hk rfl fun a hk=>?_
 obtain ⟨y3,h4,H⟩:=bind_some H
 refine sc rfl en132 hk rfl rfl rfl (spec_l03Clamp_t _ x0 _ h4) ?_
 rintro _ w ⟨rfl,hG⟩ a hk
 have hs:=hs.call0 hG
 obtain ⟨c5,H⟩:=ite_no H
 refine ssa rfl hk rfl rfl rfl rfl c5 fun a hk=>?_
 obtain ⟨y6,h7,H⟩:=bind_some H
 refine sc rfl en131 hk rfl rfl rfl (spec_l03Parts_t _ (y3++(⟨#[0]⟩:ByteArray)) _ h7) ?_
 rintro _ w ⟨rfl,lh8,hG⟩ a hk
 have hs:=hs.call0 hG
 refine sala 1 ((Lay.int iS)) (m:=5) (z:=0) (zc:=[vI iS 0]) hs rfl hk rfl rfl ze156 (by exact ⟨rfl,rfl⟩) rfl rfl rfl fun b9 k10 w a hk o11 hs=>?_
 have lh12:(List.replicate 5 (0:Int)).length=5:=List.length_replicate
 refine sswa 1 y6 hs rfl o11 lh12 lh8 rfl rfl hk rfl rfl rfl rfl sz156 fun k13 w a hk o14 hs=>nx hK2 <| sr fun _ hK15=>sbd (pv:=[]) rfl hk rfl rfl rfl bd156_8 fun a hk=>?_
 have lh16:(List.replicate 5 (0:Int)).length=5:=List.length_replicate
 refine sala 2 ((Lay.int iS)) (m:=5) (z:=0) (zc:=[vI iS 0]) hs rfl hk rfl rfl ze156 (by exact ⟨rfl,rfl⟩) rfl rfl rfl fun b17 k18 w a hk o19 hs=>?_
 have lh20:(List.replicate 5 (0:Int)).length=5:=List.length_replicate
 refine sswa 2 (List.replicate 5 (0:Int)) hs rfl o19 lh20 lh16 rfl rfl hk rfl rfl rfl rfl sz156 fun k21 w a hk o22 hs=>nx hK15 <| sq fun _ hK23=>sr fun _ hK24=>mv hk rfl fun a hk=>nx hK24 ?_
 obtain ⟨o36,h37,HL38⟩:=bind_some H
 clear H
 obtain ⟨R39,hR39⟩:=nm fun a w=>∃ (u32:List Int) (k33:Chunk),o36 = .out u32∧Kn [(0,(vS x0)),(6,(vP (some ⟨b17,0,none⟩)))] 108 a∧Sat [] w0 w [] [(2,k33)]∧Own (Lay.int iS) 156 (some ⟨b17,0,none⟩) 5 u32 k33∧u32.length=5
 refine wp_cutq R39 ?_ ?_
 ·refine wp_block ?_
  obtain ⟨fu41,h37⟩:=loopO_some h37
  obtain ⟨I40,hI40⟩:=nm fun fu a w=>∃ (u27:List Int) (u31:Int) (k28:Chunk),loopN (fun s=>spec_l03Tag.s0 x1 y6 s.1 s.2) fu (u27,u31)=some o36∧Kn [(0,(vS x0)),(1,(vS x1)),(5,(vP (some ⟨b9,0,none⟩))),(6,(vP (some ⟨b17,0,none⟩))),(7,(vI iS u31))] 108 a∧Sat [] w0 w [] [(1,k13),(2,k28)]∧Own (Lay.int iS) 156 (some ⟨b17,0,none⟩) 5 u27 k28∧u27.length=5
  refine wp_loop_ghost I40 fu41 ?_ ?_
  ·rw [hI40]
   exact ⟨_,_,_,h37,(hk.al rfl),(hs.pick [(1,1),(2,2)] rfl),o22,lh16⟩
  clear h37 hk hs
  intro fu41 a w hI0
  rw [hI40] at hI0
  obtain ⟨u27,u31,k28,hi,hk,hs,o29,lh30⟩:=hI0
  obtain ⟨x42,H,h43⟩:=loop_round hi
  try dsimp only at H
  unfold spec_l03Tag.s0 at H
  refine sq fun _ hK44=>sr fun _ hK45=>mv hk rfl fun a hk=>mv hk rfl fun a hk=>sles rfl hk rfl rfl rfl un9 fun a hk=>sv (.bool (decide (u31<(x1.size:Int)))) hk rfl rfl rfl fun a hk=>nx hK45 ?_
  rcases cond_some H with ⟨c46,H⟩ | ⟨c46,H⟩
  ·have hk:=hk.lit 24 c46 rfl
   refine cnd_true hk rfl rfl <| wp_skip <| hK44 _ _ <| sq fun _ hK47=>wp_block ?_
   refine sr fun _ hK48=>mv hk rfl fun a hk=>mv hk rfl fun a hk=>mv hk rfl fun a hk=>sles rfl hk rfl rfl rfl un9 fun a hk=>mv hk rfl fun a hk=>sv (vI iS (w64 (u31+16))) hk rfl rfl rfl fun a hk=>smn rfl hk rfl rfl rfl rfl fun a hk=>?_
   obtain ⟨c49,H⟩:=ite_no H
   refine ssl_lh rfl hk rfl rfl rfl rfl rfl un9 c49.1 c49.2.1 c49.2.2 fun a hk=>?_
   obtain ⟨c50,H⟩:=ite_no H
   refine ssa rfl hk rfl rfl rfl rfl c50 fun a hk=>mv hk rfl fun a hk=>nx hK48 <| sq fun _ hK51=>?_
   obtain ⟨o56,h57,HL58⟩:=bind_some H
   clear H
   obtain ⟨R59,hR59⟩:=nm fun a w=>∃ (u55:ByteArray),o56 = .out u55∧Kn [(0,(vS x0)),(1,(vS x1)),(5,(vP (some ⟨b9,0,none⟩))),(6,(vP (some ⟨b17,0,none⟩))),(7,(vI iS u31)),(8,(vS u55))] 108 a∧Sat [] w0 w [] [(1,k13),(2,k28)]
   refine wp_cutq R59 ?_ ?_
   ·refine wp_block ?_
    obtain ⟨fu61,h57⟩:=loopO_some h57
    obtain ⟨I60,hI60⟩:=nm fun fu a w=>∃ (u54:ByteArray),loopN (fun s=>spec_l03Tag.s1  s) fu u54=some o56∧Kn [(0,(vS x0)),(1,(vS x1)),(5,(vP (some ⟨b9,0,none⟩))),(6,(vP (some ⟨b17,0,none⟩))),(7,(vI iS u31)),(8,(vS u54))] 108 a∧Sat [] w0 w [] [(1,k13),(2,k28)]
    refine wp_loop_ghost I60 fu61 ?_ ?_
    ·rw [hI60]
     exact ⟨_,h57,(hk.al rfl),(hs.pick [(1,1),(2,2)] rfl)⟩
    clear h57 hk hs
    intro fu61 a w hI0
    rw [hI60] at hI0
    obtain ⟨u54,hi,hk,hs⟩:=hI0
    obtain ⟨x62,H,h63⟩:=loop_round hi
    try dsimp only at H
    unfold spec_l03Tag.s1 at H
    refine sq fun _ hK64=>sr fun _ hK65=>mv hk rfl fun a hk=>sles rfl hk rfl rfl rfl un9 fun a hk=>sv (.bool (decide ((u54.size:Int)<17))) hk rfl rfl rfl fun a hk=>nx hK65 ?_
    have hs:=hs.pick [(1,1),(2,2)] rfl
    rcases cond_some H with ⟨c66,H⟩ | ⟨c66,H⟩
    ·have hk:=hk.lit 38 c66 rfl
     refine cnd_true hk rfl rfl <| wp_skip <| hK64 _ _ <| wp_block ?_
     apply wp_region_lit
     refine mv hk rfl fun a hk=>?_
     obtain ⟨c67,H⟩:=ite_no H
     refine ssa rfl hk rfl rfl rfl rfl c67 fun a hk=>mv hk rfl fun a hk=>?_
     show wpList _ _ _ [] _ _
     refine wpList_nil ?_
     obtain rfl:=osi H
     obtain ⟨m68,hmm68,h63⟩:=h63
     show ∃ n',n'<_∧I60 n' _ _
     refine ⟨m68,hmm68,?_⟩
     rw [hI60]
     exact ⟨_,h63,(hk.al rfl),(hs.pick [(1,1),(2,2)] rfl)⟩
    have hk:=hk.lit 38 c66 rfl
    refine cnd_false hk rfl rfl <| wp_exit ?_
    obtain rfl:=osi H
    show R59 _ _
    rw [hR59]
    exact ⟨_,h63.symm,(hk.al rfl),(hs.pick [(1,1),(2,2)] rfl)⟩
   intro a w hR0
   rw [hR59] at hR0
   obtain ⟨u55,rfl,hk,hs⟩:=hR0
   have H:=HL58
   try dsimp only at H
   refine hK51 _ _ ?_
   have hs:=hs.pick [(1,1),(2,2)] rfl
   refine sr fun _ hK69=>mv hk rfl fun a hk=>?_
   obtain ⟨y70,h71,H⟩:=bind_some H
   refine sc rfl en131 hk rfl rfl rfl (spec_l03Parts_t _ u55 _ h71) ?_
   rintro _ w ⟨rfl,lh72,hG⟩ a hk
   have hs:=hs.call0 hG
   refine sala 5 ((Lay.int iS)) (m:=5) (z:=0) (zc:=[vI iS 0]) hs rfl hk rfl rfl ze156 (by exact ⟨rfl,rfl⟩) rfl rfl rfl fun b73 k74 w a hk o75 hs=>?_
   have lh76:(List.replicate 5 (0:Int)).length=5:=List.length_replicate
   refine sswa 5 y70 hs rfl o75 lh76 lh72 rfl rfl hk rfl rfl rfl rfl sz156 fun k77 w a hk o78 hs=>nx hK69 <| sq fun _ hK79=>sr fun _ hK80=>mv hk rfl fun a hk=>nx hK80 ?_
   obtain ⟨o92,h93,HL94⟩:=bind_some H
   clear H
   obtain ⟨R95,hR95⟩:=nm fun a w=>∃ (u88:List Int) (k89:Chunk),o92 = .out u88∧Kn [(0,(vS x0)),(1,(vS x1)),(5,(vP (some ⟨b9,0,none⟩))),(6,(vP (some ⟨b17,0,none⟩))),(7,(vI iS u31))] 108 a∧Sat [] w0 w [] [(1,k13),(2,k89)]∧Own (Lay.int iS) 156 (some ⟨b17,0,none⟩) 5 u88 k89∧u88.length=5
   refine wp_cutq R95 ?_ ?_
   ·refine wp_block ?_
    obtain ⟨fu97,h93⟩:=loopO_some h93
    obtain ⟨I96,hI96⟩:=nm fun fu a w=>∃ (u83:List Int) (u87:Int) (k84:Chunk),loopN (fun s=>spec_l03Tag.s2 y70 s.1 s.2) fu (u83,u87)=some o92∧Kn [(0,(vS x0)),(1,(vS x1)),(5,(vP (some ⟨b9,0,none⟩))),(6,(vP (some ⟨b17,0,none⟩))),(7,(vI iS u31)),(9,(vP (some ⟨b73,0,none⟩))),(10,(vI iS u87))] 108 a∧Sat [] w0 w [] [(1,k13),(2,k84),(5,k77)]∧Own (Lay.int iS) 156 (some ⟨b17,0,none⟩) 5 u83 k84∧u83.length=5
    refine wp_loop_ghost I96 fu97 ?_ ?_
    ·rw [hI96]
     exact ⟨_,_,_,h93,(hk.al rfl),(hs.pick [(1,1),(2,2),(5,5)] rfl),o29,lh30⟩
    clear h93 hk hs
    intro fu97 a w hI0
    rw [hI96] at hI0
    obtain ⟨u83,u87,k84,hi,hk,hs,o85,lh86⟩:=hI0
    obtain ⟨x98,H,h99⟩:=loop_round hi
    try dsimp only at H
    unfold spec_l03Tag.s2 at H
    refine sq fun _ hK100=>sr fun _ hK101=>mv hk rfl fun a hk=>sv (.bool (decide (u87<5))) hk rfl rfl rfl fun a hk=>nx hK101 ?_
    rcases cond_some H with ⟨c102,H⟩ | ⟨c102,H⟩
    ·have hk:=hk.lit 44 c102 rfl
     refine cnd_true hk rfl rfl <| wp_skip <| hK100 _ _ <| sq fun _ hK103=>wp_block ?_
     refine wp_region_tree (.q 0 (.q 1 (.q 2 (.alt 3 (.alt 4 (.alt 5 (.alt 6 (.alt 7 (.last 8) .stop) .stop) .stop) .stop) .stop)))) mo (by kernel_rfl) (hs.pick [(1,1),(2,2),(5,5)] rfl) fun _=>?_
     have hs:=hs.drew
     refine tqm hk rfl fun a hk=>?_
     obtain ⟨c105,H⟩:=ite_no H
     obtain ⟨b106,q107,hAc105⟩:=(o85.view).some_ u87 c105.1 (by rw [lh86];exact c105.2)
     refine tqst _ hk rfl rfl rfl rfl (fun w hs=>sia rfl hk rfl rfl rfl rfl un156 sz3 c105.1 c105.2 hAc105 fun a hk=>qe hk) fun a hk=>?_
     obtain ⟨_,rfl,e108⟩:=(o85.view).at_ 0 u87 c105.1 (by rw [lh86];exact c105.2)
     refine tqst _ hk rfl rfl rfl rfl (fun w hs=>sl (v:=(vI iS (u83.getD u87.toNat 0))) rfl hk rfl rfl rfl ag3 ((e108 0 _ rfl).cell (hs.hasG (k:=2) rfl)) fun a hk=>qe hk) fun a hk=>tss hs hk rfl rfl fun _ hK_r104_3 w hs=>mv hk rfl fun a hk=>se (hs.pick [(1,1),(2,2),(5,5)] rfl) hk (hK_r104_3 _ _ ?_)
     refine tss hs hk rfl rfl fun _ hK_r104_4 w hs=>?_
     obtain ⟨c109,H⟩:=ite_no H
     obtain ⟨b110,q111,hAc109⟩:=(o78.view).some_ u87 c109.1 (by rw [lh72];exact c109.2)
     refine sia rfl hk rfl rfl rfl rfl un156 sz3 c109.1 c109.2 hAc109 fun a hk=>se (hs.pick [(1,1),(2,2),(5,5)] rfl) hk (hK_r104_4 _ _ ?_)
     refine tss hs hk rfl rfl fun _ hK_r104_5 w hs=>?_
     obtain ⟨_,rfl,e112⟩:=(o78.view).at_ 0 u87 c109.1 (by rw [lh72];exact c109.2)
     refine sl (v:=(vI iS (y70.getD u87.toNat 0))) rfl hk rfl rfl rfl ag3 ((e112 0 _ rfl).cell (hs.hasG (k:=5) rfl)) fun a hk=>se (hs.pick [(1,1),(2,2),(5,5)] rfl) hk (hK_r104_5 _ _ ?_)
     refine tss hs hk rfl rfl fun _ hK_r104_6 w hs=>sv (vI iS (w64 ((u83.getD u87.toNat 0)+(y70.getD u87.toNat 0)))) hk rfl rfl rfl fun a hk=>se (hs.pick [(1,1),(2,2),(5,5)] rfl) hk (hK_r104_6 _ _ ?_)
     refine tss hs hk rfl rfl fun _ hK_r104_7 w hs=>?_
     obtain ⟨c113,H⟩:=ite_no H
     obtain ⟨b114,q115,hAc113⟩:=(o85.view).some_ u87 c113.1 (by rw [lh86];exact c113.2)
     refine sia rfl hk rfl rfl rfl rfl un156 sz3 c113.1 c113.2 hAc113 fun a hk=>se (hs.pick [(1,1),(2,2),(5,5)] rfl) hk (hK_r104_7 _ _ ?_)
     refine tlst hk rfl rfl fun K_r104_8 hK_r104_8 w hF=>?_
     have hs:=hs.f hF
     refine so (j:=0) 2 0 (w64 ((u83.getD u87.toNat 0)+(y70.getD u87.toNat 0))) hs rfl o85 c113.1 (by rw [lh86];exact c113.2) rfl hk rfl rfl rfl rfl rfl sz3 (by simp [Value.cells,Value.oneCell']) (Nat.le_of_ble_eq_true rfl) (fun _ _ h=>⟨by rw [h.1];rfl,h.2⟩) fun k116 w a hk o117 hs=>?_
     have lh118:(u83.set u87.toNat (w64 ((u83.getD u87.toNat 0)+(y70.getD u87.toNat 0)))).length=5:=by rw [List.length_set];exact lh86
     refine se trivial hk (hK_r104_8 _ _ fun w hF=>?_)
     have hs:=hs.f hF
     refine hK103 _ _ ?_
     apply wp_region_lit
     refine mv hk rfl fun a hk=>sv (vI iS (w64 (u87+1))) hk rfl rfl rfl fun a hk=>mv hk rfl fun a hk=>?_
     show wpList _ _ _ [] _ _
     refine wpList_nil ?_
     obtain rfl:=osi H
     obtain ⟨m119,hmm119,h99⟩:=h99
     show ∃ n',n'<_∧I96 n' _ _
     refine ⟨m119,hmm119,?_⟩
     rw [hI96]
     exact ⟨_,_,_,h99,(hk.al rfl),(hs.pick [(1,1),(2,2),(5,5)] rfl),o117,lh118⟩
    have hk:=hk.lit 44 c102 rfl
    refine cnd_false hk rfl rfl <| wp_exit ?_
    obtain rfl:=osi H
    show R95 _ _
    rw [hR95]
    exact ⟨_,_,h99.symm,(hk.al rfl),(hs.pick [(1,1),(2,2)] rfl),o85,lh86⟩
   intro a w hR0
   rw [hR95] at hR0
   obtain ⟨u88,k89,rfl,hk,hs,o90,lh91⟩:=hR0
   have H:=HL94
   try dsimp only at H
   refine hK79 _ _ ?_
   apply wp_region_lit
   refine slna (k:=2) hs rfl o90 lh91 rfl hk rfl rfl rfl ag156 sz156 fun a hk=>slna (k:=1) hs rfl o14 lh8 rfl hk rfl rfl rfl ag156 sz156 fun a hk=>?_
   obtain ⟨y120,h121,H⟩:=bind_some H
   refine sc rfl en133 hk rfl rfl rfl (spec_l03Times_t _ u88 lh91 y6 lh8 _ h121) ?_
   rintro _ w ⟨rfl,lh122,hG⟩ a hk
   have hs:=hs.call0 hG
   refine sswa 2 y120 hs rfl o90 lh91 lh122 rfl rfl hk rfl rfl rfl rfl sz156 fun k123 w a hk o124 hs=>nx hK47 ?_
   apply wp_region_lit
   refine mv hk rfl fun a hk=>sv (vI iS (w64 (u31+16))) hk rfl rfl rfl fun a hk=>mv hk rfl fun a hk=>?_
   show wpList _ _ _ [] _ _
   refine wpList_nil ?_
   obtain rfl:=osi H
   obtain ⟨m125,hmm125,h43⟩:=h43
   show ∃ n',n'<_∧I40 n' _ _
   refine ⟨m125,hmm125,?_⟩
   rw [hI40]
   exact ⟨_,_,_,h43,(hk.al rfl),(hs.pick [(1,1),(2,2)] rfl),o124,lh122⟩
  have hk:=hk.lit 24 c46 rfl
  refine cnd_false hk rfl rfl <| wp_exit ?_
  obtain rfl:=osi H
  show R39 _ _
  rw [hR39]
  exact ⟨_,_,h43.symm,(hk.al rfl),(hs.pick [(2,2)] rfl),o29,lh30⟩
 intro a w hR0
 rw [hR39] at hR0
 obtain ⟨u32,k33,rfl,hk,hs,o34,lh35⟩:=hR0
 have H:=HL38
 try dsimp only at H
 refine hK23 _ _ <| sr fun _ hK126=>slna (k:=2) hs rfl o34 lh35 rfl hk rfl rfl rfl ag156 sz156 fun a hk=>?_
 obtain ⟨y127,h128,H⟩:=bind_some H
 refine sc rfl en135 hk rfl rfl rfl (spec_l03Carry_t _ u32 lh35 _ h128) ?_
 rintro _ w ⟨rfl,lh129,hG⟩ a hk
 have hs:=hs.call0 hG
 obtain ⟨y130,h131,H⟩:=bind_some H
 refine sc rfl en134 hk rfl rfl rfl (spec_l03Less_t _ y127 lh129 _ h131) ?_
 rintro _ w ⟨rfl,lh132,hG⟩ a hk
 have hs:=hs.call0 hG
 refine sswa 2 y130 hs rfl o34 lh35 lh132 rfl rfl hk rfl rfl rfl rfl sz156 fun k133 w a hk o134 hs=>nx hK126 <| sr fun _ hK135=>sbs0 8 (Lay.int iB) hs rfl hk rfl rfl un101 sz5 fun b136 k137 w a hk o138 hs=>mv hk rfl fun a hk=>nx hK135 <| sr fun _ hK139=>mv hk rfl fun a hk=>nx hK139 ?_
 have hs:=hs.pick [(2,2),(8,8)] rfl
 refine sq fun _ hK140=>sr fun _ hK141=>mv hk rfl fun a hk=>nx hK141 ?_
 obtain ⟨o160,h161,HL162⟩:=bind_some H
 clear H
 obtain ⟨R163,hR163⟩:=nm fun a w=>∃ (u155:List Int) (A158:Option Addr) (p159:Nat) (k156:Chunk),o160 = .out u155∧Kn [(11,(vL A158 u155.length p159))] 108 a∧Sat [] w0 w [] [(8,k156)]∧Own (Lay.int iB) 5 A158 p159 u155 k156
 refine wp_cutq R163 ?_ ?_
 ·refine wp_block ?_
  obtain ⟨fu165,h161⟩:=loopO_some h161
  obtain ⟨I164,hI164⟩:=nm fun fu a w=>∃ (u150:List Int) (u148:Int) (u149:Int) (A153:Option Addr) (p154:Nat) (k151:Chunk),loopN (fun s=>spec_l03Tag.s3 x0 y130 s.1 s.2.1 s.2.2) fu (u150,u148,u149)=some o160∧Kn [(0,(vS x0)),(6,(vP (some ⟨b17,0,none⟩))),(11,(vL A153 u150.length p154)),(12,(vI iS u148)),(13,(vI iS u149))] 108 a∧Sat [] w0 w [] [(2,k133),(8,k151)]∧Own (Lay.int iB) 5 A153 p154 u150 k151
  refine wp_loop_ghost I164 fu165 ?_ ?_
  ·rw [hI164]
   exact ⟨_,_,_,(some ⟨b136,0,none⟩),0,_,h161,(hk.al rfl),(hs.pick [(2,2),(8,8)] rfl),o138⟩
  clear h161 hk hs
  intro fu165 a w hI0
  rw [hI164] at hI0
  obtain ⟨u150,u148,u149,A153,p154,k151,hi,hk,hs,o152⟩:=hI0
  obtain ⟨x166,H,h167⟩:=loop_round hi
  try dsimp only at H
  unfold spec_l03Tag.s3 at H
  refine sq fun _ hK168=>sr fun _ hK169=>mv hk rfl fun a hk=>sv (.bool (decide (u149<16))) hk rfl rfl rfl fun a hk=>nx hK169 ?_
  rcases cond_some H with ⟨c170,H⟩ | ⟨c170,H⟩
  ·have hk:=hk.lit 63 c170 rfl
   refine cnd_true hk rfl rfl <| wp_skip <| hK168 _ _ <| sq fun _ hK171=>wp_block ?_
   refine sr fun _ hK172=>mv hk rfl fun a hk=>sv (vI iS (w64 (8*u149))) hk rfl rfl rfl fun a hk=>mv hk rfl fun a hk=>nx hK172 <| sr fun _ hK173=>mv hk rfl fun a hk=>sv (vI iS (wR iS (Int.tdiv (w64 (8*u149)) 26))) hk rfl rfl rfl fun a hk=>?_
   obtain ⟨c174,H⟩:=ite_no H
   obtain ⟨b175,q176,hAc174⟩:=(o134.view).some_ (wR iS (Int.tdiv (w64 (8*u149)) 26)) c174.1 (by rw [lh132];exact c174.2)
   refine sia rfl hk rfl rfl rfl rfl un156 sz3 c174.1 c174.2 hAc174 fun a hk=>?_
   obtain ⟨_,rfl,e177⟩:=(o134.view).at_ 0 (wR iS (Int.tdiv (w64 (8*u149)) 26)) c174.1 (by rw [lh132];exact c174.2)
   refine sl (v:=(vI iS (y130.getD (wR iS (Int.tdiv (w64 (8*u149)) 26)).toNat 0))) rfl hk rfl rfl rfl ag3 ((e177 0 _ rfl).cell (hs.hasG (k:=2) rfl)) fun a hk=>mv hk rfl fun a hk=>sv (vI iS (Int.tmod (w64 (8*u149)) 26)) hk rfl rfl rfl fun a hk=>?_
   obtain ⟨c178,H⟩:=ite_no H
   refine ssr rfl hk rfl rfl rfl rfl c178 fun a hk=>mv hk rfl fun a hk=>nx hK173 <| sq fun _ hK179=>sr fun _ hK180=>mv hk rfl fun a hk=>sv (vI iS (Int.tmod (w64 (8*u149)) 26)) hk rfl rfl rfl fun a hk=>sv (.bool (decide ((Int.tmod (w64 (8*u149)) 26)>18))) hk rfl rfl rfl fun a hk=>nx hK180 ?_
   obtain ⟨o183,h184,HL185⟩:=bind_some H
   clear H
   obtain ⟨R186,hR186⟩:=nm fun a w=>∃ (u182:Int),u182=o183∧Kn [(0,(vS x0)),(6,(vP (some ⟨b17,0,none⟩))),(11,(vL A153 u150.length p154)),(12,(vI iS u148)),(13,(vI iS u149)),(15,(vI iS u182))] 108 a∧Sat [] w0 w [] [(2,k133),(8,k151)]
   refine wp_cutq R186 ?_ ?_
   ·have H:=h184
    rcases cond_some H with ⟨c187,H⟩ | ⟨c187,H⟩
    ·have hk:=hk.lit 77 c187 rfl
     refine cnd_true hk rfl rfl ?_
     apply wp_region_lit
     refine mv hk rfl fun a hk=>mv hk rfl fun a hk=>sv (vI iS (wR iS (Int.tdiv (w64 (8*u149)) 26))) hk rfl rfl rfl fun a hk=>sv (vI iS (w64 ((wR iS (Int.tdiv (w64 (8*u149)) 26))+1))) hk rfl rfl rfl fun a hk=>?_
     obtain ⟨c188,H⟩:=ite_no H
     obtain ⟨b189,q190,hAc188⟩:=(o134.view).some_ (w64 ((wR iS (Int.tdiv (w64 (8*u149)) 26))+1)) c188.1 (by rw [lh132];exact c188.2)
     refine sia rfl hk rfl rfl rfl rfl un156 sz3 c188.1 c188.2 hAc188 fun a hk=>?_
     obtain ⟨_,rfl,e191⟩:=(o134.view).at_ 0 (w64 ((wR iS (Int.tdiv (w64 (8*u149)) 26))+1)) c188.1 (by rw [lh132];exact c188.2)
     refine sl (v:=(vI iS (y130.getD (w64 ((wR iS (Int.tdiv (w64 (8*u149)) 26))+1)).toNat 0))) rfl hk rfl rfl rfl ag3 ((e191 0 _ rfl).cell (hs.hasG (k:=2) rfl)) fun a hk=>mv hk rfl fun a hk=>sv (vI iS (Int.tmod (w64 (8*u149)) 26)) hk rfl rfl rfl fun a hk=>sv (vI iS (w64 (26-(Int.tmod (w64 (8*u149)) 26)))) hk rfl rfl rfl fun a hk=>?_
     obtain ⟨c192,H⟩:=ite_no H
     refine ssh rfl hk rfl rfl rfl rfl c192 fun a hk=>sv (vI iS (w64 ((Int.fdiv (y130.getD (wR iS (Int.tdiv (w64 (8*u149)) 26)).toNat 0) (2 ^ min (Int.tmod (w64 (8*u149)) 26).toNat 64))+(wR iS ((y130.getD (w64 ((wR iS (Int.tdiv (w64 (8*u149)) 26))+1)).toNat 0)*2 ^ min (w64 (26-(Int.tmod (w64 (8*u149)) 26))).toNat 64))))) hk rfl rfl rfl fun a hk=>mv hk rfl fun a hk=>?_
     show wpList _ _ _ [] _ _
     refine wpList_nil ?_
     obtain rfl:=osi H
     show R186 _ _
     rw [hR186]
     exact ⟨(w64 ((Int.fdiv (y130.getD (wR iS (Int.tdiv (w64 (8*u149)) 26)).toNat 0) (2 ^ min (Int.tmod (w64 (8*u149)) 26).toNat 64))+(wR iS ((y130.getD (w64 ((wR iS (Int.tdiv (w64 (8*u149)) 26))+1)).toNat 0)*2 ^ min (w64 (26-(Int.tmod (w64 (8*u149)) 26))).toNat 64)))),rfl,(hk.al rfl),(hs.pick [(2,2),(8,8)] rfl)⟩
    have hk:=hk.lit 77 c187 rfl
    refine cnd_false hk rfl rfl <| wp_skip ?_
    obtain rfl:=osi H
    show R186 _ _
    rw [hR186]
    exact ⟨(Int.fdiv (y130.getD (wR iS (Int.tdiv (w64 (8*u149)) 26)).toNat 0) (2 ^ min (Int.tmod (w64 (8*u149)) 26).toNat 64)),rfl,(hk.al rfl),(hs.pick [(2,2),(8,8)] rfl)⟩
   intro a w hR0
   rw [hR186] at hR0
   obtain ⟨u182,rfl,hk,hs⟩:=hR0
   have H:=HL185
   try dsimp only at H
   refine hK179 _ _ <| sr fun _ hK193=>mv hk rfl fun a hk=>mv hk rfl fun a hk=>sv (vI iS (bia6 u182 255)) hk rfl rfl rfl fun a hk=>mv hk rfl fun a hk=>mv hk rfl fun a hk=>sv (vI iS (w64 (16+u149))) hk rfl rfl rfl fun a hk=>?_
   obtain ⟨c194,H⟩:=ite_no H
   refine six rfl hk rfl rfl rfl rfl un9 c194.1 c194.2 fun a hk=>scn rfl hk rfl rfl rfl un3 un5 fun a hk=>sv (vI iS (w64 ((bia6 u182 255)+(wR iS (byteAt x0 (w64 (16+u149))))))) hk rfl rfl rfl fun a hk=>sv (vI iS (w64 (u148+(w64 ((bia6 u182 255)+(wR iS (byteAt x0 (w64 (16+u149))))))))) hk rfl rfl rfl fun a hk=>mv hk rfl fun a hk=>nx hK193 ?_
   have hs:=hs.pick [(2,2),(8,8)] rfl
   refine sr fun _ hK195=>mv hk rfl fun a hk=>mv hk rfl fun a hk=>scn rfl hk rfl rfl rfl un5 un3 fun a hk=>sbs (L:=(Lay.int iB)) (pv:=[(0,(vI iB (wR iB (w64 (u148+(w64 ((bia6 u182 255)+(wR iS (byteAt x0 (w64 (16+u149)))))))))))]) (xs:=[(wR iB (w64 (u148+(w64 ((bia6 u182 255)+(wR iS (byteAt x0 (w64 (16+u149)))))))))]) (ess:=[[vI iB (wR iB (w64 (u148+(w64 ((bia6 u182 255)+(wR iS (byteAt x0 (w64 (16+u149)))))))))]]) 11 hs rfl hk rfl rfl rfl un101 (bs5_4 (wR iB (w64 (u148+(w64 ((bia6 u182 255)+(wR iS (byteAt x0 (w64 (16+u149)))))))))) (AllOwn.cons0 ⟨rfl,rfl⟩ AllOwn.nil) rfl rfl rfl fun b196 k197 w a hk o198 hs=>?_
   obtain ⟨c199,H⟩:=ite_no H
   refine sap 8 (xs:=u150) (ys:=[(wR iB (w64 (u148+(w64 ((bia6 u182 255)+(wR iS (byteAt x0 (w64 (16+u149)))))))))]) (flat_flat:((Lay.int iB)).Flat) hs rfl o152 o198.view (hs.hasG (k:=11) rfl) rfl hk rfl rfl rfl rfl rfl rfl un101 mk5 rfl rfl rfl c199 fun A200 p201 k202 w a hk o203 hs=>mv hk rfl fun a hk=>nx hK195 ?_
   apply wp_region_lit
   refine mv hk rfl fun a hk=>sv (vI iS (Int.fdiv (w64 (u148+(w64 ((bia6 u182 255)+(wR iS (byteAt x0 (w64 (16+u149)))))))) (2 ^ 8))) hk rfl rfl rfl fun a hk=>mv hk rfl fun a hk=>nx hK171 ?_
   apply wp_region_lit
   refine mv hk rfl fun a hk=>sv (vI iS (w64 (u149+1))) hk rfl rfl rfl fun a hk=>mv hk rfl fun a hk=>?_
   show wpList _ _ _ [] _ _
   refine wpList_nil ?_
   obtain rfl:=osi H
   obtain ⟨m204,hmm204,h167⟩:=h167
   show ∃ n',n'<_∧I164 n' _ _
   refine ⟨m204,hmm204,?_⟩
   rw [hI164]
   exact ⟨_,_,_,A200,p201,_,h167,(hk.al rfl),(hs.pick [(2,2),(8,8)] rfl),o203⟩
  have hk:=hk.lit 63 c170 rfl
  refine cnd_false hk rfl rfl <| wp_exit ?_
  obtain rfl:=osi H
  show R163 _ _
  rw [hR163]
  exact ⟨_,A153,p154,_,h167.symm,(hk.al rfl),(hs.pick [(8,8)] rfl),o152⟩
 intro a w hR0
 rw [hR163] at hR0
 obtain ⟨u155,A158,p159,k156,rfl,hk,hs,o157⟩:=hR0
 have H:=HL162
 try dsimp only at H
 refine hK140 _ _ <| sr fun _ hK205=>mv hk rfl fun a hk=>sbt (xs:=u155) rfl hk rfl rfl rfl rfl un101 un5 un9 o157.view (hs.hasG (k:=8) rfl) fun a hk=>mv hk rfl fun a hk=>nx hK205 <| wp_ret ?_
 obtain rfl:=osi H
 exact fin hk _ [(vS (strOfNums u155))] rfl ⟨rfl,trivial⟩ ⟨rfl,(hs.pick [] rfl).dnil⟩
noncomputable def spec_l04Pad.s0  (u5:ByteArray):Option ((ByteArray) ⊕ Ex (ByteArray) (ByteArray)) :=
  (bif ((Int.tmod (u5.size:Int) 16) != 0) then (if u5.size+(⟨#[0]⟩:ByteArray).size≤1152921504606846976 then (some (.inl (u5++(⟨#[0]⟩:ByteArray)))) else none) else (some (.inr (.out u5))))
noncomputable def spec_l04Pad.f (x0:ByteArray):Option (ByteArray) :=
  ((loopO (fun s=>spec_l04Pad.s0  s) x0).bind fun o=>match o with | .out u6=>(some u6) | .ret r=>(some r))
theorem spec_l04Pad_t (w0:World) (x0:ByteArray) (r:ByteArray) (H:spec_l04Pad.f x0=some r) :
    Calls Tryz.prog 112 #[vS x0] w0 (Ret (fun v w=>v=vS r∧Sat [] w0 w [] [])):=by
 have hs:=sat0 w0 [] (by simp)
 unfold spec_l04Pad.f at H
 refine enter Tryz.func112 rfl Tryz.ntmps112 rfl fun a hk=>sr fun _ hK1=>mv hk rfl fun a hk=>nx hK1 <| sq fun _ hK2=>?_
 obtain ⟨o7,h8,HL9⟩:=bind_some H
 clear H
 obtain ⟨R10,hR10⟩:=nm fun a w=>∃ (u6:ByteArray),o7 = .out u6∧Kn [(0,(vS u6))] 10 a∧Sat [] w0 w [] []
 refine wp_cutq R10 ?_ ?_
 ·refine wp_block ?_
  obtain ⟨fu12,h8⟩:=loopO_some h8
  obtain ⟨I11,hI11⟩:=nm fun fu a w=>∃ (u5:ByteArray),loopN (fun s=>spec_l04Pad.s0  s) fu u5=some o7∧Kn [(0,(vS u5))] 10 a∧Sat [] w0 w [] []
  refine wp_loop_ghost I11 fu12 ?_ ?_
  ·rw [hI11]
   exact ⟨_,h8,(hk.al rfl),(hs.pick [] rfl)⟩
  clear h8 hk hs
  intro fu12 a w hI0
  rw [hI11] at hI0
  obtain ⟨u5,hi,hk,hs⟩:=hI0
  obtain ⟨x13,H,h14⟩:=loop_round hi
  try dsimp only at H
  unfold spec_l04Pad.s0 at H
  refine sq fun _ hK15=>sr fun _ hK16=>mv hk rfl fun a hk=>sles rfl hk rfl rfl rfl un9 fun a hk=>sv (vI iS (Int.tmod (u5.size:Int) 16)) hk rfl rfl rfl fun a hk=>sv (.bool ((Int.tmod (u5.size:Int) 16) != 0)) hk rfl rfl rfl fun a hk=>nx hK16 ?_
  rcases cond_some H with ⟨c17,H⟩ | ⟨c17,H⟩
  ·have hk:=hk.lit 6 c17 rfl
   refine cnd_true hk rfl rfl <| wp_skip <| hK15 _ _ <| wp_block ?_
   apply wp_region_lit
   refine mv hk rfl fun a hk=>?_
   obtain ⟨c18,H⟩:=ite_no H
   refine ssa rfl hk rfl rfl rfl rfl c18 fun a hk=>mv hk rfl fun a hk=>?_
   show wpList _ _ _ [] _ _
   refine wpList_nil ?_
   obtain rfl:=osi H
   obtain ⟨m19,hmm19,h14⟩:=h14
   show ∃ n',n'<_∧I11 n' _ _
   refine ⟨m19,hmm19,?_⟩
   rw [hI11]
   exact ⟨_,h14,(hk.al rfl),(hs.pick [] rfl)⟩
  have hk:=hk.lit 6 c17 rfl
  refine cnd_false hk rfl rfl <| wp_exit ?_
  obtain rfl:=osi H
  show R10 _ _
  rw [hR10]
  exact ⟨_,h14.symm,(hk.al rfl),(hs.pick [] rfl)⟩
 intro a w hR0
 rw [hR10] at hR0
 obtain ⟨u6,rfl,hk,hs⟩:=hR0
 have H:=HL9
 try dsimp only at H
 refine hK2 _ _ <| sr fun _ hK20=>mv hk rfl fun a hk=>mv hk rfl fun a hk=>nx hK20 <| wp_ret ?_
 obtain rfl:=osi H
 exact fin hk _ [(vS u6)] rfl ⟨rfl,trivial⟩ ⟨rfl,(hs.pick [] rfl).dnil⟩
noncomputable def spec_l04Tag.f (x0:ByteArray) (x1:ByteArray) (x2:ByteArray) (x3:ByteArray):Option (ByteArray) :=
  ((spec_l02Block.f x0 x1 0).bind fun y3=>(if 0≤(32:Int)∧(32:Int)≤(y3.size:Int) then ((spec_l04Pad.f x2).bind fun y7=>((spec_l04Pad.f x3).bind fun y9=>(if y7.size+y9.size≤1152921504606846976 then ((spec_l04Eight.f (x2.size:Int)).bind fun y12=>(if (y7++y9).size+y12.size≤1152921504606846976 then ((spec_l04Eight.f (x3.size:Int)).bind fun y15=>(if ((y7++y9)++y12).size+y15.size≤1152921504606846976 then ((spec_l03Tag.f (y3.extract 0 (32:Int).toNat) (((y7++y9)++y12)++y15)).bind fun y18=>(some y18)) else none)) else none)) else none))) else none))
theorem spec_l04Tag_t (w0:World) (x0:ByteArray) (x1:ByteArray) (x2:ByteArray) (x3:ByteArray) (r:ByteArray) (H:spec_l04Tag.f x0 x1 x2 x3=some r) :
    Calls Tryz.prog 91 #[vS x0,vS x1,vS x2,vS x3] w0 (Ret (fun v w=>v=vS r∧Sat [] w0 w [] [])):=by
 have hs:=sat0 w0 [] (by simp)
 unfold spec_l04Tag.f at H
 refine enter Tryz.func91 rfl Tryz.ntmps91 rfl fun a hk=>sr fun _ hK1=>mv hk rfl fun a hk=>nx hK1 <| sr fun _ hK2=>mv hk rfl fun a hk=>mv hk rfl fun a hk=>?_
 obtain ⟨y3,h4,H⟩:=bind_some H
 refine sc rfl en110 hk rfl rfl rfl (spec_l02Block_t _ x0 x1 0 _ h4) ?_
 rintro _ w ⟨rfl,hG⟩ a hk
 have hs:=hs.call0 hG
 obtain ⟨c5,H⟩:=ite_no H
 refine ssl_h rfl hk rfl rfl rfl rfl un9 c5.1 c5.2 fun a hk=>mv hk rfl fun a hk=>nx hK2 <| sr fun _ hK6=>mv hk rfl fun a hk=>mv hk rfl fun a hk=>?_
 obtain ⟨y7,h8,H⟩:=bind_some H
 refine sc rfl en112 hk rfl rfl rfl (spec_l04Pad_t _ x2 _ h8) ?_
 rintro _ w ⟨rfl,hG⟩ a hk
 have hs:=hs.call0 hG
 refine mv hk rfl fun a hk=>?_
 obtain ⟨y9,h10,H⟩:=bind_some H
 refine sc rfl en112 hk rfl rfl rfl (spec_l04Pad_t _ x3 _ h10) ?_
 rintro _ w ⟨rfl,hG⟩ a hk
 have hs:=hs.call0 hG
 obtain ⟨c11,H⟩:=ite_no H
 refine ssa rfl hk rfl rfl rfl rfl c11 fun a hk=>mv hk rfl fun a hk=>sles rfl hk rfl rfl rfl un9 fun a hk=>?_
 obtain ⟨y12,h13,H⟩:=bind_some H
 refine sc rfl en89 hk rfl rfl rfl (spec_l04Eight_t _ (x2.size:Int) _ h13) ?_
 rintro _ w ⟨rfl,hG⟩ a hk
 have hs:=hs.call0 hG
 obtain ⟨c14,H⟩:=ite_no H
 refine ssa rfl hk rfl rfl rfl rfl c14 fun a hk=>mv hk rfl fun a hk=>sles rfl hk rfl rfl rfl un9 fun a hk=>?_
 obtain ⟨y15,h16,H⟩:=bind_some H
 refine sc rfl en89 hk rfl rfl rfl (spec_l04Eight_t _ (x3.size:Int) _ h16) ?_
 rintro _ w ⟨rfl,hG⟩ a hk
 have hs:=hs.call0 hG
 obtain ⟨c17,H⟩:=ite_no H
 refine ssa rfl hk rfl rfl rfl rfl c17 fun a hk=>?_
 obtain ⟨y18,h19,H⟩:=bind_some H
 refine sc rfl en111 hk rfl rfl rfl (spec_l03Tag_t _ (y3.extract 0 (32:Int).toNat) (((y7++y9)++y12)++y15) _ h19) ?_
 rintro _ w ⟨rfl,hG⟩ a hk
 have hs:=hs.call0 hG
 refine mv hk rfl fun a hk=>nx hK6 <| wp_ret ?_
 obtain rfl:=osi H
 exact fin hk _ [(vS y18)] rfl ⟨rfl,trivial⟩ ⟨rfl,(hs.pick [] rfl).dnil⟩
noncomputable def spec_l04Seal.f (x0:ByteArray) (x1:ByteArray) (x2:ByteArray) (x3:ByteArray):Option (ByteArray) :=
  ((spec_l02Xor.f x0 x1 1 x3).bind fun y3=>((spec_l04Tag.f x0 x1 x2 y3).bind fun y6=>(if y3.size+y6.size≤1152921504606846976 then (some (y3++y6)) else none)))
theorem spec_l04Seal_t (w0:World) (x0:ByteArray) (x1:ByteArray) (x2:ByteArray) (x3:ByteArray) (r:ByteArray) (H:spec_l04Seal.f x0 x1 x2 x3=some r) :
    Calls Tryz.prog 73 #[vS x0,vS x1,vS x2,vS x3] w0 (Ret (fun v w=>v=vS r∧Sat [] w0 w [] [])):=by
 have hs:=sat0 w0 [] (by simp)
 unfold spec_l04Seal.f at H
 refine enter Tryz.func73 rfl Tryz.ntmps73 rfl fun a hk=>sr fun _ hK1=>mv hk rfl fun a hk=>nx hK1 <| sr fun _ hK2=>mv hk rfl fun a hk=>mv hk rfl fun a hk=>mv hk rfl fun a hk=>?_
 obtain ⟨y3,h4,H⟩:=bind_some H
 refine sc rfl en90 hk rfl rfl rfl (spec_l02Xor_t _ x0 x1 1 x3 _ h4) ?_
 rintro _ w ⟨rfl,hG⟩ a hk
 have hs:=hs.call0 hG
 refine mv hk rfl fun a hk=>nx hK2 <| sr fun _ hK5=>mv hk rfl fun a hk=>mv hk rfl fun a hk=>mv hk rfl fun a hk=>mv hk rfl fun a hk=>mv hk rfl fun a hk=>?_
 obtain ⟨y6,h7,H⟩:=bind_some H
 refine sc rfl en91 hk rfl rfl rfl (spec_l04Tag_t _ x0 x1 x2 y3 _ h7) ?_
 rintro _ w ⟨rfl,hG⟩ a hk
 have hs:=hs.call0 hG
 obtain ⟨c8,H⟩:=ite_no H
 refine ssa rfl hk rfl rfl rfl rfl c8 fun a hk=>mv hk rfl fun a hk=>nx hK5 <| wp_ret ?_
 obtain rfl:=osi H
 exact fin hk _ [(vS (y3++y6))] rfl ⟨rfl,trivial⟩ ⟨rfl,(hs.pick [] rfl).dnil⟩
noncomputable def spec_l06Seal.f (x0:ByteArray) (x1:Int) (x2:Int) (x3:Int) (x4:ByteArray):Option (ByteArray) :=
  ((spec_l06Nonce.f x1 x2 x3).bind fun y3=>((spec_l04Seal.f x0 y3 (⟨#[98,108,111,99,107]⟩:ByteArray) x4).bind fun y6=>(some y6)))
theorem spec_l06Seal_t (w0:World) (x0:ByteArray) (x1:Int) (x2:Int) (x3:Int) (x4:ByteArray) (r:ByteArray) (H:spec_l06Seal.f x0 x1 x2 x3 x4=some r) :
    Calls Tryz.prog 47 #[vS x0,vI iS x1,vI iS x2,vI iS x3,vS x4] w0 (Ret (fun v w=>v=vS r∧Sat [] w0 w [] [])):=by
 have hs:=sat0 w0 [] (by simp)
 unfold spec_l06Seal.f at H
 refine enter Tryz.func47 rfl Tryz.ntmps47 rfl fun a hk=>sr fun _ hK1=>mv hk rfl fun a hk=>nx hK1 <| sr fun _ hK2=>mv hk rfl fun a hk=>mv hk rfl fun a hk=>mv hk rfl fun a hk=>?_
 obtain ⟨y3,h4,H⟩:=bind_some H
 refine sc rfl en72 hk rfl rfl rfl (spec_l06Nonce_t _ x1 x2 x3 _ h4) ?_
 rintro _ w ⟨rfl,hG⟩ a hk
 have hs:=hs.call0 hG
 refine mv hk rfl fun a hk=>nx hK2 <| sr fun _ hK5=>mv hk rfl fun a hk=>mv hk rfl fun a hk=>mv hk rfl fun a hk=>?_
 obtain ⟨y6,h7,H⟩:=bind_some H
 refine sc rfl en73 hk rfl rfl rfl (spec_l04Seal_t _ x0 y3 (⟨#[98,108,111,99,107]⟩:ByteArray) x4 _ h7) ?_
 rintro _ w ⟨rfl,hG⟩ a hk
 have hs:=hs.call0 hG
 refine mv hk rfl fun a hk=>nx hK5 <| wp_ret ?_
 obtain rfl:=osi H
 exact fin hk _ [(vS y6)] rfl ⟨rfl,trivial⟩ ⟨rfl,(hs.pick [] rfl).dnil⟩
noncomputable def spec_l06Ints.s0 (l0:List Int) (u15:List Int) (u14:Int):Option (((List Int)×Int) ⊕ Ex ((List Int)) (ByteArray)) :=
  (bif (decide (u14<(l0.length:Int))) then (if 0≤u14∧u14<(l0.length:Int) then ((spec_l02Bytes.f u15 (l0.getD u14.toNat 0)).bind fun y41=>(some (.inl (y41,(w64 (u14+1)))))) else none) else (some (.inr (.out u15))))
noncomputable def spec_l06Ints.f (l0:List Int):Option (ByteArray) :=
  ((loopO (fun s=>spec_l06Ints.s0 l0 s.1 s.2) (([]:List Int),0)).bind fun o=>match o with | .out u20=>(some (strOfNums u20)) | .ret r=>(some r))
theorem spec_l06Ints_t (w0:World) (A0_:Option Addr) (p0_:Nat) (l0:List Int) (k0_:Chunk) (v0_:View (Lay.int iS) A0_ p0_ l0 k0_) (w0_:Has w0 k0_) (r:ByteArray) (H:spec_l06Ints.f l0=some r) :
    Calls Tryz.prog 92 #[vL A0_ l0.length p0_] w0 (Ret (fun v w=>v=vS r∧Sat [] w0 w [] [])):=by
 have hs:=sat0 w0 [(1,k0_)] (by simp only [List.mem_cons,List.not_mem_nil,or_false];rintro x (rfl) <;> assumption)
 unfold spec_l06Ints.f at H
 refine enter Tryz.func92 rfl Tryz.ntmps92 rfl fun a hk=>sr fun _ hK1=>mv hk rfl fun a hk=>nx hK1 <| sr fun _ hK2=>sbs0 2 (Lay.int iB) hs rfl hk rfl rfl un101 sz5 fun b3 k4 w a hk o5 hs=>mv hk rfl fun a hk=>nx hK2 <| sq fun _ hK6=>sr fun _ hK7=>mv hk rfl fun a hk=>nx hK7 ?_
 obtain ⟨o25,h26,HL27⟩:=bind_some H
 clear H
 obtain ⟨R28,hR28⟩:=nm fun a w=>∃ (u20:List Int) (A23:Option Addr) (p24:Nat) (k21:Chunk),o25 = .out u20∧Kn [(3,(vL A23 u20.length p24))] 20 a∧Sat [] w0 w [(1,k0_)] [(2,k21)]∧Own (Lay.int iB) 5 A23 p24 u20 k21
 refine wp_cutq R28 ?_ ?_
 ·refine wp_block ?_
  obtain ⟨fu30,h26⟩:=loopO_some h26
  obtain ⟨I29,hI29⟩:=nm fun fu a w=>∃ (u15:List Int) (u14:Int) (A18:Option Addr) (p19:Nat) (k16:Chunk),loopN (fun s=>spec_l06Ints.s0 l0 s.1 s.2) fu (u15,u14)=some o25∧Kn [(0,(vL A0_ l0.length p0_)),(3,(vL A18 u15.length p19)),(4,(vI iS u14))] 20 a∧Sat [] w0 w [(1,k0_)] [(2,k16)]∧Own (Lay.int iB) 5 A18 p19 u15 k16
  refine wp_loop_ghost I29 fu30 ?_ ?_
  ·rw [hI29]
   exact ⟨_,_,(some ⟨b3,0,none⟩),0,_,h26,(hk.al rfl),(hs.pick [(2,2)] rfl),o5⟩
  clear h26 hk hs
  intro fu30 a w hI0
  rw [hI29] at hI0
  obtain ⟨u15,u14,A18,p19,k16,hi,hk,hs,o17⟩:=hI0
  obtain ⟨x31,H,h32⟩:=loop_round hi
  try dsimp only at H
  unfold spec_l06Ints.s0 at H
  refine sq fun _ hK33=>sr fun _ hK34=>mv hk rfl fun a hk=>mv hk rfl fun a hk=>sle rfl hk rfl rfl rfl un22 fun a hk=>sv (.bool (decide (u14<(l0.length:Int)))) hk rfl rfl rfl fun a hk=>nx hK34 ?_
  rcases cond_some H with ⟨c35,H⟩ | ⟨c35,H⟩
  ·have hk:=hk.lit 9 c35 rfl
   refine cnd_true hk rfl rfl <| wp_skip <| hK33 _ _ <| sq fun _ hK36=>wp_block ?_
   apply wp_region_lit
   refine mv hk rfl fun a hk=>mv hk rfl fun a hk=>mv hk rfl fun a hk=>?_
   obtain ⟨c37,H⟩:=ite_no H
   obtain ⟨b38,q39,hAc37⟩:=(v0_).some_ u14 c37.1 c37.2
   refine si rfl hk rfl rfl rfl rfl un22 sz3 c37.1 c37.2 hAc37 fun a hk=>?_
   obtain ⟨_,rfl,e40⟩:=(v0_).at_ 0 u14 c37.1 c37.2
   refine sl (v:=(vI iS (l0.getD u14.toNat 0))) rfl hk rfl rfl rfl ag3 ((e40 0 _ rfl).cell (hs.hasD (k:=1) rfl)) fun a hk=>?_
   obtain ⟨y41,h42,H⟩:=bind_some H
   refine sc rfl en113 hk rfl rfl rfl (spec_l02Bytes_t _ A18 p19 u15 _ o17 (l0.getD u14.toNat 0) ((hs.hand [(1,2)] rfl).dpick [] rfl) _ h42) ?_
   rintro _ w ⟨A43,p44,k45,rfl,o46,hG⟩ a hk
   have hs:=hs.back [(1,2)] rfl hG [4] rfl
   refine mv hk rfl fun a hk=>nx hK36 ?_
   apply wp_region_lit
   refine mv hk rfl fun a hk=>sv (vI iS (w64 (u14+1))) hk rfl rfl rfl fun a hk=>mv hk rfl fun a hk=>?_
   show wpList _ _ _ [] _ _
   refine wpList_nil ?_
   obtain rfl:=osi H
   obtain ⟨m47,hmm47,h32⟩:=h32
   show ∃ n',n'<_∧I29 n' _ _
   refine ⟨m47,hmm47,?_⟩
   rw [hI29]
   exact ⟨_,_,A43,p44,_,h32,(hk.al rfl),(hs.pick [(2,4)] rfl),o46⟩
  have hk:=hk.lit 9 c35 rfl
  refine cnd_false hk rfl rfl <| wp_exit ?_
  obtain rfl:=osi H
  show R28 _ _
  rw [hR28]
  exact ⟨_,A18,p19,_,h32.symm,(hk.al rfl),(hs.pick [(2,2)] rfl),o17⟩
 intro a w hR0
 rw [hR28] at hR0
 obtain ⟨u20,A23,p24,k21,rfl,hk,hs,o22⟩:=hR0
 have H:=HL27
 try dsimp only at H
 refine hK6 _ _ <| sr fun _ hK48=>mv hk rfl fun a hk=>sbt (xs:=u20) rfl hk rfl rfl rfl rfl un101 un5 un9 o22.view (hs.hasG (k:=2) rfl) fun a hk=>mv hk rfl fun a hk=>nx hK48 <| wp_ret ?_
 obtain rfl:=osi H
 exact fin hk _ [(vS (strOfNums u20))] rfl ⟨rfl,trivial⟩ ⟨rfl,(hs.pick [] rfl).dnil⟩
noncomputable def spec_l12Fill.s0 (x1:Int) (u9:List Int):Option (((List Int)) ⊕ Ex ((List Int)) (ByteArray)) :=
  (bif (decide ((u9.length:Int)<x1)) then (if u9.length+([0]).length≤1073741824 then (some (.inl (u9++([0])))) else none) else (some (.inr (.out u9))))
noncomputable def spec_l12Fill.f (l0:List Int) (x1:Int):Option (ByteArray) :=
  ((loopO (fun s=>spec_l12Fill.s0 x1 s) l0).bind fun o=>match o with | .out u14=>((spec_l06Ints.f u14).bind fun y40=>(some y40)) | .ret r=>(some r))
theorem spec_l12Fill_t (w0:World) (A0_:Option Addr) (p0_:Nat) (l0:List Int) (k0_:Chunk) (v0_:Own (Lay.int iS) 3 A0_ p0_ l0 k0_) (x1:Int) (hs0:Sat (blks [(1,k0_)]) w0 w0 [] [(1,k0_)]) (r:ByteArray) (H:spec_l12Fill.f l0 x1=some r) :
    Calls Tryz.prog 74 #[vL A0_ l0.length p0_,vI iS x1] w0 (Ret (fun v w=>v=vS r∧Sat (blks [(1,k0_)]) w0 w [] [])):=by
 have hs:=hs0
 unfold spec_l12Fill.f at H
 refine enter Tryz.func74 rfl Tryz.ntmps74 rfl fun a hk=>sr fun _ hK1=>mv hk rfl fun a hk=>nx hK1 <| sq fun _ hK2=>?_
 obtain ⟨o19,h20,HL21⟩:=bind_some H
 clear H
 obtain ⟨R22,hR22⟩:=nm fun a w=>∃ (u14:List Int) (A17:Option Addr) (p18:Nat) (k15:Chunk),o19 = .out u14∧Kn [(0,(vL A17 u14.length p18))] 14 a∧Sat (blks [(1,k0_)]) w0 w [] [(1,k15)]∧Own (Lay.int iS) 3 A17 p18 u14 k15
 refine wp_cutq R22 ?_ ?_
 ·refine wp_block ?_
  obtain ⟨fu24,h20⟩:=loopO_some h20
  obtain ⟨I23,hI23⟩:=nm fun fu a w=>∃ (u9:List Int) (A12:Option Addr) (p13:Nat) (k10:Chunk),loopN (fun s=>spec_l12Fill.s0 x1 s) fu u9=some o19∧Kn [(0,(vL A12 u9.length p13)),(1,(vI iS x1))] 14 a∧Sat (blks [(1,k0_)]) w0 w [] [(1,k10)]∧Own (Lay.int iS) 3 A12 p13 u9 k10
  refine wp_loop_ghost I23 fu24 ?_ ?_
  ·rw [hI23]
   exact ⟨_,A0_,p0_,_,h20,(hk.al rfl),(hs.pick [(1,1)] rfl),v0_⟩
  clear h20 hk hs
  intro fu24 a w hI0
  rw [hI23] at hI0
  obtain ⟨u9,A12,p13,k10,hi,hk,hs,o11⟩:=hI0
  obtain ⟨x25,H,h26⟩:=loop_round hi
  try dsimp only at H
  unfold spec_l12Fill.s0 at H
  refine sq fun _ hK27=>sr fun _ hK28=>mv hk rfl fun a hk=>sle rfl hk rfl rfl rfl un22 fun a hk=>mv hk rfl fun a hk=>sv (.bool (decide ((u9.length:Int)<x1))) hk rfl rfl rfl fun a hk=>nx hK28 ?_
  rcases cond_some H with ⟨c29,H⟩ | ⟨c29,H⟩
  ·have hk:=hk.lit 8 c29 rfl
   refine cnd_true hk rfl rfl <| wp_skip <| hK27 _ _ <| wp_block ?_
   apply wp_region_lit
   refine mv hk rfl fun a hk=>sbs (L:=(Lay.int iS)) (pv:=[(0,(vI iS 0))]) (xs:=[0]) (ess:=[[vI iS 0]]) 3 hs rfl hk rfl rfl rfl un22 (bs3_9 0) (AllOwn.cons0 ⟨rfl,rfl⟩ AllOwn.nil) rfl rfl rfl fun b30 k31 w a hk o32 hs=>?_
   obtain ⟨c33,H⟩:=ite_no H
   refine sap 1 (xs:=u9) (ys:=[0]) (flat_flat:((Lay.int iS)).Flat) hs rfl o11 o32.view (hs.hasG (k:=3) rfl) rfl hk rfl rfl rfl rfl rfl rfl un22 mk3 rfl rfl rfl c33 fun A34 p35 k36 w a hk o37 hs=>mv hk rfl fun a hk=>?_
   show wpList _ _ _ [] _ _
   refine wpList_nil ?_
   obtain rfl:=osi H
   obtain ⟨m38,hmm38,h26⟩:=h26
   show ∃ n',n'<_∧I23 n' _ _
   refine ⟨m38,hmm38,?_⟩
   rw [hI23]
   exact ⟨_,A34,p35,_,h26,(hk.al rfl),(hs.pick [(1,1)] rfl),o37⟩
  have hk:=hk.lit 8 c29 rfl
  refine cnd_false hk rfl rfl <| wp_exit ?_
  obtain rfl:=osi H
  show R22 _ _
  rw [hR22]
  exact ⟨_,A12,p13,_,h26.symm,(hk.al rfl),(hs.pick [(1,1)] rfl),o11⟩
 intro a w hR0
 rw [hR22] at hR0
 obtain ⟨u14,A17,p18,k15,rfl,hk,hs,o16⟩:=hR0
 have H:=HL21
 try dsimp only at H
 refine hK2 _ _ <| sr fun _ hK39=>mv hk rfl fun a hk=>?_
 obtain ⟨y40,h41,H⟩:=bind_some H
 refine sc rfl en92 hk rfl rfl rfl (spec_l06Ints_t _ A17 p18 u14 _ o16.view (hs.hasG (k:=1) rfl) _ h41) ?_
 rintro _ w ⟨rfl,hG⟩ a hk
 have hs:=hs.call0 hG
 refine mv hk rfl fun a hk=>nx hK39 <| wp_ret ?_
 obtain rfl:=osi H
 exact fin hk _ [(vS y40)] rfl ⟨rfl,trivial⟩ ⟨rfl,(hs.pick [] rfl).dnil⟩
end Go.Proofs.YteklgnhfgdhdiaaGreat
