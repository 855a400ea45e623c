/- Further functions. -/
import Derived.Test.YteklgnhfgdhdiaaGreatGXInit
namespace Go.Proofs.YteklgnhfgdhdiaaGreat
open Go Go.Z Go.Proofs Go.MuLone Go.ChangeShapes Go.WideShapes Go.ChangeAt Go.RowKit
set_option linter.unusedVariables false
set_option linter.unusedSimpArgs false
set_option maxRecDepth 100000
set_option maxHeartbeats 0
open Go.IntKind renaming wrap → wR, i64 → iS, u32 → iU, u8 → iB
open Go.Value renaming int → vI, string → vS, slice → vL, pointer → vP
open BitVec renaming ofInt → bO
noncomputable def spec_l12State.s0 (x0:S_Enc) (u30:List Int) (u29:Int):Option (((List Int)×Int) ⊕ Ex ((List Int)) (ByteArray)) :=
  (bif (decide (u29<(x0.Oram.Stash.length:Int))) then (if 0≤u29∧u29<(x0.Oram.Stash.length:Int) then (if 0≤u29∧u29<(x0.Oram.Stash.length:Int) then (if 0≤u29∧u29<(x0.Oram.Stash.length:Int) then (if u30.length+([(x0.Oram.Stash.getD u29.toNat z_Block).Id,(x0.Oram.Stash.getD u29.toNat z_Block).Leaf,(x0.Oram.Stash.getD u29.toNat z_Block).Value]).length≤1073741824 then (some (.inl ((u30++([(x0.Oram.Stash.getD u29.toNat z_Block).Id,(x0.Oram.Stash.getD u29.toNat z_Block).Leaf,(x0.Oram.Stash.getD u29.toNat z_Block).Value])),(w64 (u29+1))))) else none) else none) else none) else none) else (some (.inr (.out u30))))
noncomputable def spec_l12State.s1 (l1:List S_Result) (u98:List Int) (u97:Int):Option (((List Int)×Int) ⊕ Ex ((List Int)) (ByteArray)) :=
  (bif (decide (u97<(l1.length:Int))) then (if 0≤u97∧u97<(l1.length:Int) then (if 0≤u97∧u97<(l1.length:Int) then (if u98.length+([(l1.getD u97.toNat z_Result).Code,(((l1.getD u97.toNat z_Result).Values).length:Int)]).length≤1073741824 then (if 0≤u97∧u97<(l1.length:Int) then (if (u98++([(l1.getD u97.toNat z_Result).Code,(((l1.getD u97.toNat z_Result).Values).length:Int)])).length+((l1.getD u97.toNat z_Result).Values).length≤1073741824 then (some (.inl (((u98++([(l1.getD u97.toNat z_Result).Code,(((l1.getD u97.toNat z_Result).Values).length:Int)]))++((l1.getD u97.toNat z_Result).Values)),(w64 (u97+1))))) else none) else none) else none) else none) else none) else (some (.inr (.out u98))))
noncomputable def spec_l12State.f (x0:S_Enc) (l1:List S_Result):Option (ByteArray) :=
  (if ([]:List Int).length+x0.Oram.Pos.length≤1073741824 then (if (([]:List Int)++x0.Oram.Pos).length+([(x0.Oram.Stash.length:Int)]).length≤1073741824 then ((loopO (fun s=>spec_l12State.s0 x0 s.1 s.2) (((([]:List Int)++x0.Oram.Pos)++([(x0.Oram.Stash.length:Int)])),0)).bind fun o=>match o with | .out u35=>(if u35.length+x0.Keys.length≤1073741824 then (if (u35++x0.Keys).length+([(l1.length:Int)]).length≤1073741824 then ((loopO (fun s=>spec_l12State.s1 l1 s.1 s.2) (((u35++x0.Keys)++([(l1.length:Int)])),0)).bind fun o=>match o with | .out u103=>((spec_l12Fill.f u103 140).bind fun y158=>(some y158)) | .ret r=>(some r)) else none) else none) | .ret r=>(some r)) else none) else none)
theorem spec_l12State_t (w0:World) (x0:S_Enc) (A0_0:Option Addr) (p0_0:Nat) (k0_0:Chunk) (v0_0:View (Lay.int iS) A0_0 p0_0 x0.Keys k0_0) (w0_0:Has w0 k0_0) (A0_1:Option Addr) (p0_1:Nat) (k0_1:Chunk) (v0_1:View (Lay.int iS) A0_1 p0_1 x0.Oram.Pos k0_1) (w0_1:Has w0 k0_1) (A0_2:Option Addr) (p0_2:Nat) (k0_2:Chunk) (v0_2:View L_Block A0_2 p0_2 x0.Oram.Stash k0_2) (w0_2:Has w0 k0_2) (A0_3:Option Addr) (p0_3:Nat) (k0_3:Chunk) (v0_3:View (Lay.sl L_Block 100) A0_3 p0_3 x0.Oram.Buckets k0_3) (w0_3:Has w0 k0_3) (A1_:Option Addr) (p1_:Nat) (l1:List S_Result) (k1_:Chunk) (v1_:View L_impl_Result A1_ p1_ l1 k1_) (w1_:Has w0 k1_) (r:ByteArray) (H:spec_l12State.f x0 l1=some r) :
    Calls Tryz.prog 48 #[.agg #[vL A0_0 x0.Keys.length p0_0,vL A0_1 x0.Oram.Pos.length p0_1,vL A0_2 x0.Oram.Stash.length p0_2,vL A0_3 x0.Oram.Buckets.length p0_3],vL A1_ l1.length p1_] w0 (Ret (fun v w=>v=vS r∧Sat [] w0 w [] [])):=by
 have hs:=sat0 w0 [(1,k0_0),(2,k0_1),(3,k0_2),(4,k0_3),(5,k1_)] (by simp only [List.mem_cons,List.not_mem_nil,or_false];rintro x (rfl | rfl | rfl | rfl | rfl) <;> assumption)
 unfold spec_l12State.f at H
 refine enter Tryz.func48 rfl Tryz.ntmps48 rfl fun a hk=>sr fun _ hK1=>sbx 6 hs rfl hk rfl rfl rfl rfl fun b2 w a hk hs=>mv hk rfl fun a hk=>nx hK1 <| sr fun _ hK3=>sbs0 7 (Lay.int iS) hs rfl hk rfl rfl un22 sz3 fun b4 k5 w a hk o6 hs=>sf ⟨b2,1,none⟩ rfl hk rfl rfl rfl fd47_1 rfl fun a hk=>sf ⟨b2,1,none⟩ rfl hk rfl rfl rfl fd45_0 rfl fun a hk=>sl rfl hk rfl rfl rfl ag22 (box_cell hs (k:=6) rfl rfl) fun a hk=>?_
 obtain ⟨c7,H⟩:=ite_no H
 refine sap 7 (xs:=([]:List Int)) (ys:=x0.Oram.Pos) (flat_flat:((Lay.int iS)).Flat) hs rfl o6 v0_1 (hs.hasD (k:=2) rfl) rfl hk rfl rfl rfl rfl rfl rfl un22 mk3 rfl rfl rfl c7 fun A8 p9 k10 w a hk o11 hs=>mv hk rfl fun a hk=>nx hK3 <| sr fun _ hK12=>mv hk rfl fun a hk=>sf ⟨b2,1,none⟩ rfl hk rfl rfl rfl fd47_1 rfl fun a hk=>sf ⟨b2,2,none⟩ rfl hk rfl rfl rfl fd45_1 rfl fun a hk=>sl rfl hk rfl rfl rfl ag42 (box_cell hs (k:=6) rfl rfl) fun a hk=>sle rfl hk rfl rfl rfl un42 fun a hk=>sbs (L:=(Lay.int iS)) (pv:=[(0,(vI iS (x0.Oram.Stash.length:Int)))]) (xs:=[(x0.Oram.Stash.length:Int)]) (ess:=[[vI iS (x0.Oram.Stash.length:Int)]]) 8 hs rfl hk rfl rfl rfl un22 (bs3_9 (x0.Oram.Stash.length:Int)) (AllOwn.cons0 ⟨rfl,rfl⟩ AllOwn.nil) rfl rfl rfl fun b13 k14 w a hk o15 hs=>?_
 obtain ⟨c16,H⟩:=ite_no H
 refine sap 7 (xs:=(([]:List Int)++x0.Oram.Pos)) (ys:=[(x0.Oram.Stash.length:Int)]) (flat_flat:((Lay.int iS)).Flat) hs rfl o11 o15.view (hs.hasG (k:=8) rfl) rfl hk rfl rfl rfl rfl rfl rfl un22 mk3 rfl rfl rfl c16 fun A17 p18 k19 w a hk o20 hs=>mv hk rfl fun a hk=>nx hK12 <| sq fun _ hK21=>sr fun _ hK22=>mv hk rfl fun a hk=>nx hK22 ?_
 obtain ⟨o40,h41,HL42⟩:=bind_some H
 clear H
 obtain ⟨R43,hR43⟩:=nm fun a w=>∃ (u35:List Int) (A38:Option Addr) (p39:Nat) (k36:Chunk),o40 = .out u35∧Kn [(1,(vL A1_ l1.length p1_)),(2,(vP (some ⟨b2,0,none⟩))),(5,(vL A38 u35.length p39))] 90 a∧Sat [] w0 w [(1,k0_0),(2,k0_1),(3,k0_2),(4,k0_3),(5,k1_)] [(7,k36),(6,[(b2,.cells #[vL A0_0 x0.Keys.length p0_0,vL A0_1 x0.Oram.Pos.length p0_1,vL A0_2 x0.Oram.Stash.length p0_2,vL A0_3 x0.Oram.Buckets.length p0_3] 47 (0,0))])]∧Own (Lay.int iS) 3 A38 p39 u35 k36
 refine wp_cutq R43 ?_ ?_
 ·refine wp_block ?_
  obtain ⟨fu45,h41⟩:=loopO_some h41
  obtain ⟨I44,hI44⟩:=nm fun fu a w=>∃ (u30:List Int) (u29:Int) (A33:Option Addr) (p34:Nat) (k31:Chunk),loopN (fun s=>spec_l12State.s0 x0 s.1 s.2) fu (u30,u29)=some o40∧Kn [(1,(vL A1_ l1.length p1_)),(2,(vP (some ⟨b2,0,none⟩))),(5,(vL A33 u30.length p34)),(6,(vI iS u29))] 90 a∧Sat [] w0 w [(1,k0_0),(2,k0_1),(3,k0_2),(4,k0_3),(5,k1_)] [(7,k31),(6,[(b2,.cells #[vL A0_0 x0.Keys.length p0_0,vL A0_1 x0.Oram.Pos.length p0_1,vL A0_2 x0.Oram.Stash.length p0_2,vL A0_3 x0.Oram.Buckets.length p0_3] 47 (0,0))])]∧Own (Lay.int iS) 3 A33 p34 u30 k31
  refine wp_loop_ghost I44 fu45 ?_ ?_
  ·rw [hI44]
   exact ⟨_,_,A17,p18,_,h41,(hk.al rfl),(hs.pick [(7,7),(6,6)] rfl),o20⟩
  clear h41 hk hs
  intro fu45 a w hI0
  rw [hI44] at hI0
  obtain ⟨u30,u29,A33,p34,k31,hi,hk,hs,o32⟩:=hI0
  obtain ⟨x46,H,h47⟩:=loop_round hi
  try dsimp only at H
  unfold spec_l12State.s0 at H
  refine sq fun _ hK48=>sr fun _ hK49=>mv hk rfl fun a hk=>sf ⟨b2,1,none⟩ rfl hk rfl rfl rfl fd47_1 rfl fun a hk=>sf ⟨b2,2,none⟩ rfl hk rfl rfl rfl fd45_1 rfl fun a hk=>sl rfl hk rfl rfl rfl ag42 (box_cell hs (k:=6) rfl rfl) fun a hk=>sle rfl hk rfl rfl rfl un42 fun a hk=>sv (.bool (decide (u29<(x0.Oram.Stash.length:Int)))) hk rfl rfl rfl fun a hk=>nx hK49 ?_
  rcases cond_some H with ⟨c50,H⟩ | ⟨c50,H⟩
  ·have hk:=hk.lit 25 c50 rfl
   refine cnd_true hk rfl rfl <| wp_skip <| hK48 _ _ <| sq fun _ hK51=>wp_block ?_
   refine wp_region_tree (.q 0 (.q 1 (.q 2 (.q 3 (.q 4 (.q 5 (.q 6 (.q 7 (.q 8 (.q 9 (.q 10 (.q 11 (.q 12 (.q 13 (.q 14 (.q 15 (.q 16 (.q 17 (.alt 18 (.alt 19 (.alt 20 (.alt 21 (.alt 22 (.alt 23 (.last 24) .stop) .stop) .stop) .stop) .stop) .stop))))))))))))))))))) mo (by kernel_rfl) (hs.pick [(6,6)] rfl) fun _=>?_
   have hs:=hs.drew
   refine tqm hk rfl fun a hk=>tqst _ hk rfl rfl rfl rfl (fun w hs=>sf ⟨b2,1,none⟩ rfl hk rfl rfl rfl fd47_1 rfl fun a hk=>qe hk) fun a hk=>tqst _ hk rfl rfl rfl rfl (fun w hs=>sf ⟨b2,2,none⟩ rfl hk rfl rfl rfl fd45_1 rfl fun a hk=>qe hk) fun a hk=>tqst _ hk rfl rfl rfl rfl (fun w hs=>sl rfl hk rfl rfl rfl ag42 (box_cell hs (k:=6) rfl rfl) fun a hk=>qe hk) fun a hk=>tqm hk rfl fun a hk=>?_
   obtain ⟨c53,H⟩:=ite_no H
   obtain ⟨b54,q55,hAc53⟩:=(v0_2).some_ u29 c53.1 c53.2
   refine tqst _ hk rfl rfl rfl rfl (fun w hs=>si rfl hk rfl rfl rfl rfl un42 sz100 c53.1 c53.2 hAc53 fun a hk=>qe hk) fun a hk=>tqst _ hk rfl rfl rfl rfl (fun w hs=>sf (padd A0_2 (u29.toNat*3+0)) rfl hk rfl rfl rfl fd100_0 (padd_add _ _ _) fun a hk=>qe hk) fun a hk=>?_
   obtain ⟨_,rfl,e56⟩:=(v0_2).at_ z_Block u29 c53.1 c53.2
   refine tqst _ hk rfl rfl rfl rfl (fun w hs=>sl (v:=(vI iS ((x0.Oram.Stash.getD u29.toNat z_Block).Id))) rfl hk rfl rfl rfl ag3 ((e56 0 _ rfl).cell (hs.hasD (k:=3) rfl)) fun a hk=>qe hk) fun a hk=>tqst _ hk rfl rfl rfl rfl (fun w hs=>sf ⟨b2,1,none⟩ rfl hk rfl rfl rfl fd47_1 rfl fun a hk=>qe hk) fun a hk=>tqst _ hk rfl rfl rfl rfl (fun w hs=>sf ⟨b2,2,none⟩ rfl hk rfl rfl rfl fd45_1 rfl fun a hk=>qe hk) fun a hk=>tqst _ hk rfl rfl rfl rfl (fun w hs=>sl rfl hk rfl rfl rfl ag42 (box_cell hs (k:=6) rfl rfl) fun a hk=>qe hk) fun a hk=>tqm hk rfl fun a hk=>?_
   obtain ⟨c57,H⟩:=ite_no H
   obtain ⟨b58,q59,hAc57⟩:=(v0_2).some_ u29 c57.1 c57.2
   refine tqst _ hk rfl rfl rfl rfl (fun w hs=>si rfl hk rfl rfl rfl rfl un42 sz100 c57.1 c57.2 hAc57 fun a hk=>qe hk) fun a hk=>tqst _ hk rfl rfl rfl rfl (fun w hs=>sf (padd A0_2 (u29.toNat*3+1)) rfl hk rfl rfl rfl fd100_1 (padd_add _ _ _) fun a hk=>qe hk) fun a hk=>?_
   obtain ⟨_,rfl,e60⟩:=(v0_2).at_ z_Block u29 c57.1 c57.2
   refine tqst _ hk rfl rfl rfl rfl (fun w hs=>sl (v:=(vI iS ((x0.Oram.Stash.getD u29.toNat z_Block).Leaf))) rfl hk rfl rfl rfl ag3 ((e60 1 _ rfl).cell (hs.hasD (k:=3) rfl)) fun a hk=>qe hk) fun a hk=>tqst _ hk rfl rfl rfl rfl (fun w hs=>sf ⟨b2,1,none⟩ rfl hk rfl rfl rfl fd47_1 rfl fun a hk=>qe hk) fun a hk=>tqst _ hk rfl rfl rfl rfl (fun w hs=>sf ⟨b2,2,none⟩ rfl hk rfl rfl rfl fd45_1 rfl fun a hk=>qe hk) fun a hk=>tqst _ hk rfl rfl rfl rfl (fun w hs=>sl rfl hk rfl rfl rfl ag42 (box_cell hs (k:=6) rfl rfl) fun a hk=>qe hk) fun a hk=>tss hs hk rfl rfl fun _ hK_r52_18 w hs=>mv hk rfl fun a hk=>se (hs.pick [(6,6)] rfl) hk (hK_r52_18 _ _ ?_)
   refine tss hs hk rfl rfl fun _ hK_r52_19 w hs=>?_
   obtain ⟨c61,H⟩:=ite_no H
   obtain ⟨b62,q63,hAc61⟩:=(v0_2).some_ u29 c61.1 c61.2
   refine si rfl hk rfl rfl rfl rfl un42 sz100 c61.1 c61.2 hAc61 fun a hk=>se (hs.pick [(6,6)] rfl) hk (hK_r52_19 _ _ ?_)
   refine tss hs hk rfl rfl fun _ hK_r52_20 w hs=>sf (padd A0_2 (u29.toNat*3+2)) rfl hk rfl rfl rfl fd100_2 (padd_add _ _ _) fun a hk=>se (hs.pick [(6,6)] rfl) hk (hK_r52_20 _ _ ?_)
   refine tss hs hk rfl rfl fun _ hK_r52_21 w hs=>?_
   obtain ⟨_,rfl,e64⟩:=(v0_2).at_ z_Block u29 c61.1 c61.2
   refine sl (v:=(vI iS ((x0.Oram.Stash.getD u29.toNat z_Block).Value))) rfl hk rfl rfl rfl ag3 ((e64 2 _ rfl).cell (hs.hasD (k:=3) rfl)) fun a hk=>se (hs.pick [(6,6)] rfl) hk (hK_r52_21 _ _ ?_)
   refine tss hs hk rfl rfl fun _ hK_r52_22 w hs=>sbs (L:=(Lay.int iS)) (pv:=[(0,(vI iS ((x0.Oram.Stash.getD u29.toNat z_Block).Id))),(1,(vI iS ((x0.Oram.Stash.getD u29.toNat z_Block).Leaf))),(2,(vI iS ((x0.Oram.Stash.getD u29.toNat z_Block).Value)))]) (xs:=[(x0.Oram.Stash.getD u29.toNat z_Block).Id,(x0.Oram.Stash.getD u29.toNat z_Block).Leaf,(x0.Oram.Stash.getD u29.toNat z_Block).Value]) (ess:=[[vI iS ((x0.Oram.Stash.getD u29.toNat z_Block).Id)],[vI iS ((x0.Oram.Stash.getD u29.toNat z_Block).Leaf)],[vI iS ((x0.Oram.Stash.getD u29.toNat z_Block).Value)]]) 11 hs rfl hk rfl rfl rfl un22 (bs3_10 ((x0.Oram.Stash.getD u29.toNat z_Block).Id) ((x0.Oram.Stash.getD u29.toNat z_Block).Leaf) ((x0.Oram.Stash.getD u29.toNat z_Block).Value)) (AllOwn.cons0 ⟨rfl,rfl⟩ (AllOwn.cons0 ⟨rfl,rfl⟩ (AllOwn.cons0 ⟨rfl,rfl⟩ AllOwn.nil))) rfl rfl rfl fun b65 k66 w a hk o67 hs=>se (hs.pick [(6,6)] rfl) hk (hK_r52_22 _ _ ?_)
   refine tss hs hk rfl rfl fun _ hK_r52_23 w hs=>?_
   obtain ⟨c68,H⟩:=ite_no H
   refine sap 7 (xs:=u30) (ys:=[(x0.Oram.Stash.getD u29.toNat z_Block).Id,(x0.Oram.Stash.getD u29.toNat z_Block).Leaf,(x0.Oram.Stash.getD u29.toNat z_Block).Value]) (flat_flat:((Lay.int iS)).Flat) hs rfl o32 o67.view (hs.hasG (k:=11) rfl) rfl hk rfl rfl rfl rfl rfl rfl un22 mk3 rfl rfl rfl c68 fun A69 p70 k71 w a hk o72 hs=>se (hs.pick [(6,6)] rfl) hk (hK_r52_23 _ _ ?_)
   refine tlst hk rfl rfl fun K_r52_24 hK_r52_24 w hF=>?_
   have hs:=hs.f hF
   refine mv hk rfl fun a hk=>se trivial hk (hK_r52_24 _ _ fun w hF=>?_)
   have hs:=hs.f hF
   refine hK51 _ _ ?_
   apply wp_region_lit
   refine mv hk rfl fun a hk=>sv (vI iS (w64 (u29+1))) hk rfl rfl rfl fun a hk=>mv hk rfl fun a hk=>?_
   show wpList _ _ _ [] _ _
   refine wpList_nil ?_
   obtain rfl:=osi H
   obtain ⟨m73,hmm73,h47⟩:=h47
   show ∃ n',n'<_∧I44 n' _ _
   refine ⟨m73,hmm73,?_⟩
   rw [hI44]
   exact ⟨_,_,A69,p70,_,h47,(hk.al rfl),(hs.pick [(7,7),(6,6)] rfl),o72⟩
  have hk:=hk.lit 25 c50 rfl
  refine cnd_false hk rfl rfl <| wp_exit ?_
  obtain rfl:=osi H
  show R43 _ _
  rw [hR43]
  exact ⟨_,A33,p34,_,h47.symm,(hk.al rfl),(hs.pick [(7,7),(6,6)] rfl),o32⟩
 intro a w hR0
 rw [hR43] at hR0
 obtain ⟨u35,A38,p39,k36,rfl,hk,hs,o37⟩:=hR0
 have H:=HL42
 try dsimp only at H
 refine hK21 _ _ <| sr fun _ hK74=>mv hk rfl fun a hk=>sf ⟨b2,0,none⟩ rfl hk rfl rfl rfl fd47_0 rfl fun a hk=>sl rfl hk rfl rfl rfl ag22 (box_cell hs (k:=6) rfl rfl) fun a hk=>?_
 obtain ⟨c75,H⟩:=ite_no H
 refine sap 7 (xs:=u35) (ys:=x0.Keys) (flat_flat:((Lay.int iS)).Flat) hs rfl o37 v0_0 (hs.hasD (k:=1) rfl) rfl hk rfl rfl rfl rfl rfl rfl un22 mk3 rfl rfl rfl c75 fun A76 p77 k78 w a hk o79 hs=>mv hk rfl fun a hk=>nx hK74 <| sr fun _ hK80=>mv hk rfl fun a hk=>mv hk rfl fun a hk=>sle rfl hk rfl rfl rfl un59 fun a hk=>sbs (L:=(Lay.int iS)) (pv:=[(0,(vI iS (l1.length:Int)))]) (xs:=[(l1.length:Int)]) (ess:=[[vI iS (l1.length:Int)]]) 12 hs rfl hk rfl rfl rfl un22 (bs3_9 (l1.length:Int)) (AllOwn.cons0 ⟨rfl,rfl⟩ AllOwn.nil) rfl rfl rfl fun b81 k82 w a hk o83 hs=>?_
 obtain ⟨c84,H⟩:=ite_no H
 refine sap 7 (xs:=(u35++x0.Keys)) (ys:=[(l1.length:Int)]) (flat_flat:((Lay.int iS)).Flat) hs rfl o79 o83.view (hs.hasG (k:=12) rfl) rfl hk rfl rfl rfl rfl rfl rfl un22 mk3 rfl rfl rfl c84 fun A85 p86 k87 w a hk o88 hs=>mv hk rfl fun a hk=>nx hK80 <| sq fun _ hK89=>sr fun _ hK90=>mv hk rfl fun a hk=>nx hK90 ?_
 have hs:=hs.pick [(7,7)] rfl
 obtain ⟨o108,h109,HL110⟩:=bind_some H
 clear H
 obtain ⟨R111,hR111⟩:=nm fun a w=>∃ (u103:List Int) (A106:Option Addr) (p107:Nat) (k104:Chunk),o108 = .out u103∧Kn [(5,(vL A106 u103.length p107))] 90 a∧Sat [] w0 w [(1,k0_0),(2,k0_1),(3,k0_2),(4,k0_3),(5,k1_)] [(7,k104)]∧Own (Lay.int iS) 3 A106 p107 u103 k104
 refine wp_cutq R111 ?_ ?_
 ·refine wp_block ?_
  obtain ⟨fu113,h109⟩:=loopO_some h109
  obtain ⟨I112,hI112⟩:=nm fun fu a w=>∃ (u98:List Int) (u97:Int) (A101:Option Addr) (p102:Nat) (k99:Chunk),loopN (fun s=>spec_l12State.s1 l1 s.1 s.2) fu (u98,u97)=some o108∧Kn [(1,(vL A1_ l1.length p1_)),(5,(vL A101 u98.length p102)),(7,(vI iS u97))] 90 a∧Sat [] w0 w [(1,k0_0),(2,k0_1),(3,k0_2),(4,k0_3),(5,k1_)] [(7,k99)]∧Own (Lay.int iS) 3 A101 p102 u98 k99
  refine wp_loop_ghost I112 fu113 ?_ ?_
  ·rw [hI112]
   exact ⟨_,_,A85,p86,_,h109,(hk.al rfl),(hs.pick [(7,7)] rfl),o88⟩
  clear h109 hk hs
  intro fu113 a w hI0
  rw [hI112] at hI0
  obtain ⟨u98,u97,A101,p102,k99,hi,hk,hs,o100⟩:=hI0
  obtain ⟨x114,H,h115⟩:=loop_round hi
  try dsimp only at H
  unfold spec_l12State.s1 at H
  refine sq fun _ hK116=>sr fun _ hK117=>mv hk rfl fun a hk=>mv hk rfl fun a hk=>sle rfl hk rfl rfl rfl un59 fun a hk=>sv (.bool (decide (u97<(l1.length:Int)))) hk rfl rfl rfl fun a hk=>nx hK117 ?_
  rcases cond_some H with ⟨c118,H⟩ | ⟨c118,H⟩
  ·have hk:=hk.lit 64 c118 rfl
   refine cnd_true hk rfl rfl <| wp_skip <| hK116 _ _ <| sq fun _ hK119=>wp_block ?_
   refine sq fun _ hK120=>wp_region_tree (.q 0 (.q 1 (.q 2 (.q 3 (.q 4 (.q 5 (.q 6 (.alt 7 (.alt 8 (.alt 9 (.alt 10 (.alt 11 (.alt 12 (.alt 13 (.last 14) .stop) .stop) .stop) .stop) .stop) .stop) .stop)))))))) mo (by kernel_rfl) (hs.pick [] rfl) fun _=>?_
   have hs:=hs.drew
   refine tqm hk rfl fun a hk=>tqm hk rfl fun a hk=>tqm hk rfl fun a hk=>?_
   obtain ⟨c122,H⟩:=ite_no H
   obtain ⟨b123,q124,hAc122⟩:=(v1_).some_ u97 c122.1 c122.2
   refine tqst _ hk rfl rfl rfl rfl (fun w hs=>si rfl hk rfl rfl rfl rfl un59 sz91 c122.1 c122.2 hAc122 fun a hk=>qe hk) fun a hk=>tqst _ hk rfl rfl rfl rfl (fun w hs=>sf (padd A1_ (u97.toNat*2+0)) rfl hk rfl rfl rfl fd91_0 (padd_add _ _ _) fun a hk=>qe hk) fun a hk=>?_
   obtain ⟨_,⟨_,_,rfl,rfl,⟨_,rfl,A126,p127,rfl,v128⟩⟩,e125⟩:=(v1_).at_ z_Result u97 c122.1 c122.2
   refine tqst _ hk rfl rfl rfl rfl (fun w hs=>sl (v:=(vI iS ((l1.getD u97.toNat z_Result).Code))) rfl hk rfl rfl rfl ag3 ((e125 0 _ rfl).cell (hs.hasD (k:=5) rfl)) fun a hk=>qe hk) fun a hk=>tqm hk rfl fun a hk=>tss hs hk rfl rfl fun _ hK_r121_7 w hs=>mv hk rfl fun a hk=>se (hs.pick [] rfl) hk (hK_r121_7 _ _ ?_)
   refine tss hs hk rfl rfl fun _ hK_r121_8 w hs=>?_
   obtain ⟨c129,H⟩:=ite_no H
   obtain ⟨b130,q131,hAc129⟩:=(v1_).some_ u97 c129.1 c129.2
   refine si rfl hk rfl rfl rfl rfl un59 sz91 c129.1 c129.2 hAc129 fun a hk=>se (hs.pick [] rfl) hk (hK_r121_8 _ _ ?_)
   refine tss hs hk rfl rfl fun _ hK_r121_9 w hs=>sf (padd A1_ (u97.toNat*2+1)) rfl hk rfl rfl rfl fd91_1 (padd_add _ _ _) fun a hk=>se (hs.pick [] rfl) hk (hK_r121_9 _ _ ?_)
   refine tss hs hk rfl rfl fun _ hK_r121_10 w hs=>?_
   obtain ⟨_,⟨_,_,rfl,rfl,⟨_,rfl,A133,p134,rfl,v135⟩⟩,e132⟩:=(v1_).at_ z_Result u97 c129.1 c129.2
   refine sl (v:=(vL A133 ((l1.getD u97.toNat z_Result).Values).length p134)) rfl hk rfl rfl rfl ag22 ((e132 1 _ rfl).cell (hs.hasD (k:=5) rfl)) fun a hk=>se (hs.pick [] rfl) hk (hK_r121_10 _ _ ?_)
   refine tss hs hk rfl rfl fun _ hK_r121_11 w hs=>sle rfl hk rfl rfl rfl un22 fun a hk=>se (hs.pick [] rfl) hk (hK_r121_11 _ _ ?_)
   refine tss hs hk rfl rfl fun _ hK_r121_12 w hs=>sbs (L:=(Lay.int iS)) (pv:=[(0,(vI iS ((l1.getD u97.toNat z_Result).Code))),(1,(vI iS (((l1.getD u97.toNat z_Result).Values).length:Int)))]) (xs:=[(l1.getD u97.toNat z_Result).Code,(((l1.getD u97.toNat z_Result).Values).length:Int)]) (ess:=[[vI iS ((l1.getD u97.toNat z_Result).Code)],[vI iS (((l1.getD u97.toNat z_Result).Values).length:Int)]]) 15 hs rfl hk rfl rfl rfl un22 (bs3_11 ((l1.getD u97.toNat z_Result).Code) (((l1.getD u97.toNat z_Result).Values).length:Int)) (AllOwn.cons0 ⟨rfl,rfl⟩ (AllOwn.cons0 ⟨rfl,rfl⟩ AllOwn.nil)) rfl rfl rfl fun b136 k137 w a hk o138 hs=>se (hs.pick [] rfl) hk (hK_r121_12 _ _ ?_)
   refine tss hs hk rfl rfl fun _ hK_r121_13 w hs=>?_
   obtain ⟨c139,H⟩:=ite_no H
   refine sap 7 (xs:=u98) (ys:=[(l1.getD u97.toNat z_Result).Code,(((l1.getD u97.toNat z_Result).Values).length:Int)]) (flat_flat:((Lay.int iS)).Flat) hs rfl o100 o138.view (hs.hasG (k:=15) rfl) rfl hk rfl rfl rfl rfl rfl rfl un22 mk3 rfl rfl rfl c139 fun A140 p141 k142 w a hk o143 hs=>se (hs.pick [] rfl) hk (hK_r121_13 _ _ ?_)
   refine tlst hk rfl rfl fun K_r121_14 hK_r121_14 w hF=>?_
   have hs:=hs.f hF
   refine mv hk rfl fun a hk=>se trivial hk (hK_r121_14 _ _ fun w hF=>?_)
   have hs:=hs.f hF
   refine hK120 _ _ ?_
   apply wp_region_lit
   refine mv hk rfl fun a hk=>mv hk rfl fun a hk=>mv hk rfl fun a hk=>?_
   obtain ⟨c144,H⟩:=ite_no H
   obtain ⟨b145,q146,hAc144⟩:=(v1_).some_ u97 c144.1 c144.2
   refine si rfl hk rfl rfl rfl rfl un59 sz91 c144.1 c144.2 hAc144 fun a hk=>sf (padd A1_ (u97.toNat*2+1)) rfl hk rfl rfl rfl fd91_1 (padd_add _ _ _) fun a hk=>?_
   obtain ⟨_,⟨_,_,rfl,rfl,⟨_,rfl,A148,p149,rfl,v150⟩⟩,e147⟩:=(v1_).at_ z_Result u97 c144.1 c144.2
   refine sl (v:=(vL A148 ((l1.getD u97.toNat z_Result).Values).length p149)) rfl hk rfl rfl rfl ag22 ((e147 1 _ rfl).cell (hs.hasD (k:=5) rfl)) fun a hk=>?_
   obtain ⟨c151,H⟩:=ite_no H
   refine sap 7 (xs:=(u98++([(l1.getD u97.toNat z_Result).Code,(((l1.getD u97.toNat z_Result).Values).length:Int)]))) (ys:=(l1.getD u97.toNat z_Result).Values) (flat_flat:((Lay.int iS)).Flat) hs rfl o143 v150 (hs.hasD (k:=5) rfl) rfl hk rfl rfl rfl rfl rfl rfl un22 mk3 rfl rfl rfl c151 fun A152 p153 k154 w a hk o155 hs=>mv hk rfl fun a hk=>nx hK119 ?_
   apply wp_region_lit
   refine mv hk rfl fun a hk=>sv (vI iS (w64 (u97+1))) hk rfl rfl rfl fun a hk=>mv hk rfl fun a hk=>?_
   show wpList _ _ _ [] _ _
   refine wpList_nil ?_
   obtain rfl:=osi H
   obtain ⟨m156,hmm156,h115⟩:=h115
   show ∃ n',n'<_∧I112 n' _ _
   refine ⟨m156,hmm156,?_⟩
   rw [hI112]
   exact ⟨_,_,A152,p153,_,h115,(hk.al rfl),(hs.pick [(7,7)] rfl),o155⟩
  have hk:=hk.lit 64 c118 rfl
  refine cnd_false hk rfl rfl <| wp_exit ?_
  obtain rfl:=osi H
  show R111 _ _
  rw [hR111]
  exact ⟨_,A101,p102,_,h115.symm,(hk.al rfl),(hs.pick [(7,7)] rfl),o100⟩
 intro a w hR0
 rw [hR111] at hR0
 obtain ⟨u103,A106,p107,k104,rfl,hk,hs,o105⟩:=hR0
 have H:=HL110
 try dsimp only at H
 refine hK89 _ _ <| sr fun _ hK157=>mv hk rfl fun a hk=>?_
 obtain ⟨y158,h159,H⟩:=bind_some H
 refine sc rfl en74 hk rfl rfl rfl (spec_l12Fill_t _ A106 p107 u103 _ o105 140 ((hs.hand [(1,7)] rfl).dpick [] rfl) _ h159) ?_
 rintro _ w ⟨rfl,hG⟩ a hk
 have hs:=hs.back [(1,7)] rfl hG [] rfl
 refine mv hk rfl fun a hk=>nx hK157 <| wp_ret ?_
 obtain rfl:=osi H
 exact fin hk _ [(vS y158)] rfl ⟨rfl,trivial⟩ ⟨rfl,(hs.pick [] rfl).dnil⟩
noncomputable def spec_l12Bucket.s0 (l0:List S_Block) (u15:List Int) (u14:Int):Option (((List Int)×Int) ⊕ Ex ((List Int)) (ByteArray)) :=
  (bif (decide (u14<(l0.length:Int))) then (if 0≤u14∧u14<(l0.length:Int) then (if 0≤u14∧u14<(l0.length:Int) then (if 0≤u14∧u14<(l0.length:Int) then (if u15.length+([(l0.getD u14.toNat z_Block).Id,(l0.getD u14.toNat z_Block).Leaf,(l0.getD u14.toNat z_Block).Value]).length≤1073741824 then (some (.inl ((u15++([(l0.getD u14.toNat z_Block).Id,(l0.getD u14.toNat z_Block).Leaf,(l0.getD u14.toNat z_Block).Value])),(w64 (u14+1))))) else none) else none) else none) else none) else (some (.inr (.out u15))))
noncomputable def spec_l12Bucket.f (l0:List S_Block):Option (ByteArray) :=
  ((loopO (fun s=>spec_l12Bucket.s0 l0 s.1 s.2) ([(l0.length:Int)],0)).bind fun o=>match o with | .out u20=>((spec_l12Fill.f u20 7).bind fun y60=>(some y60)) | .ret r=>(some r))
theorem spec_l12Bucket_t (w0:World) (A0_:Option Addr) (p0_:Nat) (l0:List S_Block) (k0_:Chunk) (v0_:View L_Block A0_ p0_ l0 k0_) (w0_:Has w0 k0_) (r:ByteArray) (H:spec_l12Bucket.f l0=some r) :
    Calls Tryz.prog 49 #[vL A0_ l0.length p0_] w0 (Ret (fun v w=>v=vS r∧Sat [] w0 w [] [])):=by
 have hs:=sat0 w0 [(1,k0_)] (by simp only [List.mem_cons,List.not_mem_nil,or_false];rintro x (rfl) <;> assumption)
 unfold spec_l12Bucket.f at H
 refine enter Tryz.func49 rfl Tryz.ntmps49 rfl fun a hk=>sr fun _ hK1=>mv hk rfl fun a hk=>nx hK1 <| sr fun _ hK2=>mv hk rfl fun a hk=>sle rfl hk rfl rfl rfl un42 fun a hk=>sbs (L:=(Lay.int iS)) (pv:=[(0,(vI iS (l0.length:Int)))]) (xs:=[(l0.length:Int)]) (ess:=[[vI iS (l0.length:Int)]]) 2 hs rfl hk rfl rfl rfl un22 (bs3_9 (l0.length:Int)) (AllOwn.cons0 ⟨rfl,rfl⟩ AllOwn.nil) rfl rfl rfl fun b3 k4 w a hk o5 hs=>mv hk rfl fun a hk=>nx hK2 <| sq fun _ hK6=>sr fun _ hK7=>mv hk rfl fun a hk=>nx hK7 ?_
 obtain ⟨o25,h26,HL27⟩:=bind_some H
 clear H
 obtain ⟨R28,hR28⟩:=nm fun a w=>∃ (u20:List Int) (A23:Option Addr) (p24:Nat) (k21:Chunk),o25 = .out u20∧Kn [(3,(vL A23 u20.length p24))] 34 a∧Sat [] w0 w [(1,k0_)] [(2,k21)]∧Own (Lay.int iS) 3 A23 p24 u20 k21
 refine wp_cutq R28 ?_ ?_
 ·refine wp_block ?_
  obtain ⟨fu30,h26⟩:=loopO_some h26
  obtain ⟨I29,hI29⟩:=nm fun fu a w=>∃ (u15:List Int) (u14:Int) (A18:Option Addr) (p19:Nat) (k16:Chunk),loopN (fun s=>spec_l12Bucket.s0 l0 s.1 s.2) fu (u15,u14)=some o25∧Kn [(0,(vL A0_ l0.length p0_)),(3,(vL A18 u15.length p19)),(4,(vI iS u14))] 34 a∧Sat [] w0 w [(1,k0_)] [(2,k16)]∧Own (Lay.int iS) 3 A18 p19 u15 k16
  refine wp_loop_ghost I29 fu30 ?_ ?_
  ·rw [hI29]
   exact ⟨_,_,(some ⟨b3,0,none⟩),1,_,h26,(hk.al rfl),(hs.pick [(2,2)] rfl),o5⟩
  clear h26 hk hs
  intro fu30 a w hI0
  rw [hI29] at hI0
  obtain ⟨u15,u14,A18,p19,k16,hi,hk,hs,o17⟩:=hI0
  obtain ⟨x31,H,h32⟩:=loop_round hi
  try dsimp only at H
  unfold spec_l12Bucket.s0 at H
  refine sq fun _ hK33=>sr fun _ hK34=>mv hk rfl fun a hk=>mv hk rfl fun a hk=>sle rfl hk rfl rfl rfl un42 fun a hk=>sv (.bool (decide (u14<(l0.length:Int)))) hk rfl rfl rfl fun a hk=>nx hK34 ?_
  rcases cond_some H with ⟨c35,H⟩ | ⟨c35,H⟩
  ·have hk:=hk.lit 11 c35 rfl
   refine cnd_true hk rfl rfl <| wp_skip <| hK33 _ _ <| sq fun _ hK36=>wp_block ?_
   refine wp_region_tree (.q 0 (.q 1 (.q 2 (.q 3 (.q 4 (.q 5 (.q 6 (.q 7 (.q 8 (.q 9 (.q 10 (.q 11 (.alt 12 (.alt 13 (.alt 14 (.alt 15 (.alt 16 (.alt 17 (.last 18) .stop) .stop) .stop) .stop) .stop) .stop))))))))))))) mo (by kernel_rfl) (hs.pick [] rfl) fun _=>?_
   have hs:=hs.drew
   refine tqm hk rfl fun a hk=>tqm hk rfl fun a hk=>tqm hk rfl fun a hk=>?_
   obtain ⟨c38,H⟩:=ite_no H
   obtain ⟨b39,q40,hAc38⟩:=(v0_).some_ u14 c38.1 c38.2
   refine tqst _ hk rfl rfl rfl rfl (fun w hs=>si rfl hk rfl rfl rfl rfl un42 sz100 c38.1 c38.2 hAc38 fun a hk=>qe hk) fun a hk=>tqst _ hk rfl rfl rfl rfl (fun w hs=>sf (padd A0_ (u14.toNat*3+0)) rfl hk rfl rfl rfl fd100_0 (padd_add _ _ _) fun a hk=>qe hk) fun a hk=>?_
   obtain ⟨_,rfl,e41⟩:=(v0_).at_ z_Block u14 c38.1 c38.2
   refine tqst _ hk rfl rfl rfl rfl (fun w hs=>sl (v:=(vI iS ((l0.getD u14.toNat z_Block).Id))) rfl hk rfl rfl rfl ag3 ((e41 0 _ rfl).cell (hs.hasD (k:=1) rfl)) fun a hk=>qe hk) fun a hk=>tqm hk rfl fun a hk=>tqm hk rfl fun a hk=>?_
   obtain ⟨c42,H⟩:=ite_no H
   obtain ⟨b43,q44,hAc42⟩:=(v0_).some_ u14 c42.1 c42.2
   refine tqst _ hk rfl rfl rfl rfl (fun w hs=>si rfl hk rfl rfl rfl rfl un42 sz100 c42.1 c42.2 hAc42 fun a hk=>qe hk) fun a hk=>tqst _ hk rfl rfl rfl rfl (fun w hs=>sf (padd A0_ (u14.toNat*3+1)) rfl hk rfl rfl rfl fd100_1 (padd_add _ _ _) fun a hk=>qe hk) fun a hk=>?_
   obtain ⟨_,rfl,e45⟩:=(v0_).at_ z_Block u14 c42.1 c42.2
   refine tqst _ hk rfl rfl rfl rfl (fun w hs=>sl (v:=(vI iS ((l0.getD u14.toNat z_Block).Leaf))) rfl hk rfl rfl rfl ag3 ((e45 1 _ rfl).cell (hs.hasD (k:=1) rfl)) fun a hk=>qe hk) fun a hk=>tqm hk rfl fun a hk=>tss hs hk rfl rfl fun _ hK_r37_12 w hs=>mv hk rfl fun a hk=>se (hs.pick [] rfl) hk (hK_r37_12 _ _ ?_)
   refine tss hs hk rfl rfl fun _ hK_r37_13 w hs=>?_
   obtain ⟨c46,H⟩:=ite_no H
   obtain ⟨b47,q48,hAc46⟩:=(v0_).some_ u14 c46.1 c46.2
   refine si rfl hk rfl rfl rfl rfl un42 sz100 c46.1 c46.2 hAc46 fun a hk=>se (hs.pick [] rfl) hk (hK_r37_13 _ _ ?_)
   refine tss hs hk rfl rfl fun _ hK_r37_14 w hs=>sf (padd A0_ (u14.toNat*3+2)) rfl hk rfl rfl rfl fd100_2 (padd_add _ _ _) fun a hk=>se (hs.pick [] rfl) hk (hK_r37_14 _ _ ?_)
   refine tss hs hk rfl rfl fun _ hK_r37_15 w hs=>?_
   obtain ⟨_,rfl,e49⟩:=(v0_).at_ z_Block u14 c46.1 c46.2
   refine sl (v:=(vI iS ((l0.getD u14.toNat z_Block).Value))) rfl hk rfl rfl rfl ag3 ((e49 2 _ rfl).cell (hs.hasD (k:=1) rfl)) fun a hk=>se (hs.pick [] rfl) hk (hK_r37_15 _ _ ?_)
   refine tss hs hk rfl rfl fun _ hK_r37_16 w hs=>sbs (L:=(Lay.int iS)) (pv:=[(0,(vI iS ((l0.getD u14.toNat z_Block).Id))),(1,(vI iS ((l0.getD u14.toNat z_Block).Leaf))),(2,(vI iS ((l0.getD u14.toNat z_Block).Value)))]) (xs:=[(l0.getD u14.toNat z_Block).Id,(l0.getD u14.toNat z_Block).Leaf,(l0.getD u14.toNat z_Block).Value]) (ess:=[[vI iS ((l0.getD u14.toNat z_Block).Id)],[vI iS ((l0.getD u14.toNat z_Block).Leaf)],[vI iS ((l0.getD u14.toNat z_Block).Value)]]) 5 hs rfl hk rfl rfl rfl un22 (bs3_10 ((l0.getD u14.toNat z_Block).Id) ((l0.getD u14.toNat z_Block).Leaf) ((l0.getD u14.toNat z_Block).Value)) (AllOwn.cons0 ⟨rfl,rfl⟩ (AllOwn.cons0 ⟨rfl,rfl⟩ (AllOwn.cons0 ⟨rfl,rfl⟩ AllOwn.nil))) rfl rfl rfl fun b50 k51 w a hk o52 hs=>se (hs.pick [] rfl) hk (hK_r37_16 _ _ ?_)
   refine tss hs hk rfl rfl fun _ hK_r37_17 w hs=>?_
   obtain ⟨c53,H⟩:=ite_no H
   refine sap 2 (xs:=u15) (ys:=[(l0.getD u14.toNat z_Block).Id,(l0.getD u14.toNat z_Block).Leaf,(l0.getD u14.toNat z_Block).Value]) (flat_flat:((Lay.int iS)).Flat) hs rfl o17 o52.view (hs.hasG (k:=5) rfl) rfl hk rfl rfl rfl rfl rfl rfl un22 mk3 rfl rfl rfl c53 fun A54 p55 k56 w a hk o57 hs=>se (hs.pick [] rfl) hk (hK_r37_17 _ _ ?_)
   refine tlst hk rfl rfl fun K_r37_18 hK_r37_18 w hF=>?_
   have hs:=hs.f hF
   refine mv hk rfl fun a hk=>se trivial hk (hK_r37_18 _ _ fun w hF=>?_)
   have hs:=hs.f hF
   refine hK36 _ _ ?_
   apply wp_region_lit
   refine mv hk rfl fun a hk=>sv (vI iS (w64 (u14+1))) hk rfl rfl rfl fun a hk=>mv hk rfl fun a hk=>?_
   show wpList _ _ _ [] _ _
   refine wpList_nil ?_
   obtain rfl:=osi H
   obtain ⟨m58,hmm58,h32⟩:=h32
   show ∃ n',n'<_∧I29 n' _ _
   refine ⟨m58,hmm58,?_⟩
   rw [hI29]
   exact ⟨_,_,A54,p55,_,h32,(hk.al rfl),(hs.pick [(2,2)] rfl),o57⟩
  have hk:=hk.lit 11 c35 rfl
  refine cnd_false hk rfl rfl <| wp_exit ?_
  obtain rfl:=osi H
  show R28 _ _
  rw [hR28]
  exact ⟨_,A18,p19,_,h32.symm,(hk.al rfl),(hs.pick [(2,2)] rfl),o17⟩
 intro a w hR0
 rw [hR28] at hR0
 obtain ⟨u20,A23,p24,k21,rfl,hk,hs,o22⟩:=hR0
 have H:=HL27
 try dsimp only at H
 refine hK6 _ _ <| sr fun _ hK59=>mv hk rfl fun a hk=>?_
 obtain ⟨y60,h61,H⟩:=bind_some H
 refine sc rfl en74 hk rfl rfl rfl (spec_l12Fill_t _ A23 p24 u20 _ o22 7 ((hs.hand [(1,2)] rfl).dpick [] rfl) _ h61) ?_
 rintro _ w ⟨rfl,hG⟩ a hk
 have hs:=hs.back [(1,2)] rfl hG [] rfl
 refine mv hk rfl fun a hk=>nx hK59 <| wp_ret ?_
 obtain rfl:=osi H
 exact fin hk _ [(vS y60)] rfl ⟨rfl,trivial⟩ ⟨rfl,(hs.pick [] rfl).dnil⟩
noncomputable def spec_l13Side.s0 (x0:ByteArray) (x1:Int) (x2:Int) (x3:S_Enc) (u20:List ByteArray) (u19:Int):Option (((List ByteArray)×Int) ⊕ Ex ((List ByteArray)) ((List ByteArray))) :=
  (bif (decide (u19<15)) then (if 0≤u19∧u19<(x3.Oram.Buckets.length:Int) then ((spec_l12Bucket.f (x3.Oram.Buckets.getD u19.toNat [])).bind fun y49=>((spec_l06Seal.f x0 2 (w64 ((w64 ((w64 (16*x1))+1))+u19)) x2 y49).bind fun y51=>(if u20.length+([y51]).length≤1073741824 then (some (.inl ((u20++([y51])),(w64 (u19+1))))) else none))) else none) else (some (.inr (.out u20))))
noncomputable def spec_l13Side.f (x0:ByteArray) (x1:Int) (x2:Int) (x3:S_Enc) (l4:List S_Result):Option ((List ByteArray)) :=
  ((spec_l12State.f x3 l4).bind fun y4=>((spec_l06Seal.f x0 1 (w64 (16*x1)) x2 y4).bind fun y6=>((loopO (fun s=>spec_l13Side.s0 x0 x1 x2 x3 s.1 s.2) ([y6],0)).bind fun o=>match o with | .out u25=>(some u25) | .ret r=>(some r))))
theorem spec_l13Side_t (w0:World) (x0:ByteArray) (x1:Int) (x2:Int) (x3:S_Enc) (A3_0:Option Addr) (p3_0:Nat) (k3_0:Chunk) (v3_0:View (Lay.int iS) A3_0 p3_0 x3.Keys k3_0) (w3_0:Has w0 k3_0) (A3_1:Option Addr) (p3_1:Nat) (k3_1:Chunk) (v3_1:View (Lay.int iS) A3_1 p3_1 x3.Oram.Pos k3_1) (w3_1:Has w0 k3_1) (A3_2:Option Addr) (p3_2:Nat) (k3_2:Chunk) (v3_2:View L_Block A3_2 p3_2 x3.Oram.Stash k3_2) (w3_2:Has w0 k3_2) (A3_3:Option Addr) (p3_3:Nat) (k3_3:Chunk) (v3_3:View (Lay.sl L_Block 100) A3_3 p3_3 x3.Oram.Buckets k3_3) (w3_3:Has w0 k3_3) (A4_:Option Addr) (p4_:Nat) (l4:List S_Result) (k4_:Chunk) (v4_:View L_impl_Result A4_ p4_ l4 k4_) (w4_:Has w0 k4_) (r:(List ByteArray)) (H:spec_l13Side.f x0 x1 x2 x3 l4=some r) :
    Calls Tryz.prog 26 #[vS x0,vI iS x1,vI iS x2,.agg #[vL A3_0 x3.Keys.length p3_0,vL A3_1 x3.Oram.Pos.length p3_1,vL A3_2 x3.Oram.Stash.length p3_2,vL A3_3 x3.Oram.Buckets.length p3_3],vL A4_ l4.length p4_] w0 (Ret (fun v w=>∃ (A0:Option Addr) (p0:Nat) (k0:Chunk),v=vL A0 r.length p0∧Own Lay.str 9 A0 p0 r k0∧Sat [] w0 w [] [(0,k0)])):=by
 have hs:=sat0 w0 [(1,k3_0),(2,k3_1),(3,k3_2),(4,k3_3),(5,k4_)] (by simp only [List.mem_cons,List.not_mem_nil,or_false];rintro x (rfl | rfl | rfl | rfl | rfl) <;> assumption)
 unfold spec_l13Side.f at H
 refine enter Tryz.func26 rfl Tryz.ntmps26 rfl fun a hk=>sr fun _ hK1=>sbx 6 hs rfl hk rfl rfl rfl rfl fun b2 w a hk hs=>mv hk rfl fun a hk=>nx hK1 <| sr fun _ hK3=>mv hk rfl fun a hk=>mv hk rfl fun a hk=>sv (vI iS (w64 (16*x1))) hk rfl rfl rfl fun a hk=>mv hk rfl fun a hk=>sln [vL A3_0 x3.Keys.length p3_0,vL A3_1 x3.Oram.Pos.length p3_1,vL A3_2 x3.Oram.Stash.length p3_2,vL A3_3 x3.Oram.Buckets.length p3_3] rfl hk rfl rfl rfl ag47 sz47 (box_cells hs (k:=6) rfl) fun a hk=>mv hk rfl fun a hk=>?_
 obtain ⟨y4,h5,H⟩:=bind_some H
 refine sc rfl en48 hk rfl rfl rfl (spec_l12State_t _ x3 A3_0 p3_0 _ v3_0 (hs.hasD (k:=1) rfl) A3_1 p3_1 _ v3_1 (hs.hasD (k:=2) rfl) A3_2 p3_2 _ v3_2 (hs.hasD (k:=3) rfl) A3_3 p3_3 _ v3_3 (hs.hasD (k:=4) rfl) A4_ p4_ l4 _ v4_ (hs.hasD (k:=5) rfl) _ h5) ?_
 rintro _ w ⟨rfl,hG⟩ a hk
 have hs:=hs.call0 hG
 obtain ⟨y6,h7,H⟩:=bind_some H
 refine sc rfl en47 hk rfl rfl rfl (spec_l06Seal_t _ x0 1 (w64 (16*x1)) x2 y4 _ h7) ?_
 rintro _ w ⟨rfl,hG⟩ a hk
 have hs:=hs.call0 hG
 refine sbs (L:=Lay.str) (pv:=[(0,(vS y6))]) (xs:=[y6]) (ess:=[[vS y6]]) 7 hs rfl hk rfl rfl rfl un25 (bs9_12 y6) (AllOwn.cons0 ⟨rfl,rfl⟩ AllOwn.nil) rfl rfl rfl fun b8 k9 w a hk o10 hs=>mv hk rfl fun a hk=>nx hK3 <| sq fun _ hK11=>sr fun _ hK12=>mv hk rfl fun a hk=>nx hK12 ?_
 obtain ⟨o30,h31,HL32⟩:=bind_some H
 clear H
 obtain ⟨R33,hR33⟩:=nm fun a w=>∃ (u25:List ByteArray) (A28:Option Addr) (p29:Nat) (k26:Chunk),o30 = .out u25∧Kn [(11,(vL A28 u25.length p29))] 45 a∧Sat [] w0 w [(1,k3_0),(2,k3_1),(3,k3_2),(4,k3_3),(5,k4_)] [(7,k26)]∧Own Lay.str 9 A28 p29 u25 k26
 refine wp_cutq R33 ?_ ?_
 ·refine wp_block ?_
  obtain ⟨fu35,h31⟩:=loopO_some h31
  obtain ⟨I34,hI34⟩:=nm fun fu a w=>∃ (u20:List ByteArray) (u19:Int) (A23:Option Addr) (p24:Nat) (k21:Chunk),loopN (fun s=>spec_l13Side.s0 x0 x1 x2 x3 s.1 s.2) fu (u20,u19)=some o30∧Kn [(0,(vS x0)),(1,(vI iS x1)),(2,(vI iS x2)),(8,(vP (some ⟨b2,0,none⟩))),(11,(vL A23 u20.length p24)),(12,(vI iS u19))] 45 a∧Sat [] w0 w [(1,k3_0),(2,k3_1),(3,k3_2),(4,k3_3),(5,k4_)] [(7,k21),(6,[(b2,.cells #[vL A3_0 x3.Keys.length p3_0,vL A3_1 x3.Oram.Pos.length p3_1,vL A3_2 x3.Oram.Stash.length p3_2,vL A3_3 x3.Oram.Buckets.length p3_3] 47 (0,0))])]∧Own Lay.str 9 A23 p24 u20 k21
  refine wp_loop_ghost I34 fu35 ?_ ?_
  ·rw [hI34]
   exact ⟨_,_,(some ⟨b8,0,none⟩),1,_,h31,(hk.al rfl),(hs.pick [(7,7),(6,6)] rfl),o10⟩
  clear h31 hk hs
  intro fu35 a w hI0
  rw [hI34] at hI0
  obtain ⟨u20,u19,A23,p24,k21,hi,hk,hs,o22⟩:=hI0
  obtain ⟨x36,H,h37⟩:=loop_round hi
  try dsimp only at H
  unfold spec_l13Side.s0 at H
  refine sq fun _ hK38=>sr fun _ hK39=>mv hk rfl fun a hk=>sv (.bool (decide (u19<15))) hk rfl rfl rfl fun a hk=>nx hK39 ?_
  rcases cond_some H with ⟨c40,H⟩ | ⟨c40,H⟩
  ·have hk:=hk.lit 23 c40 rfl
   refine cnd_true hk rfl rfl <| wp_skip <| hK38 _ _ <| sq fun _ hK41=>wp_block ?_
   apply wp_region_lit
   refine mv hk rfl fun a hk=>mv hk rfl fun a hk=>mv hk rfl fun a hk=>sv (vI iS (w64 (16*x1))) hk rfl rfl rfl fun a hk=>sv (vI iS (w64 ((w64 (16*x1))+1))) hk rfl rfl rfl fun a hk=>mv hk rfl fun a hk=>sv (vI iS (w64 ((w64 ((w64 (16*x1))+1))+u19))) hk rfl rfl rfl fun a hk=>mv hk rfl fun a hk=>sf ⟨b2,1,none⟩ rfl hk rfl rfl rfl fd47_1 rfl fun a hk=>sf ⟨b2,3,none⟩ rfl hk rfl rfl rfl fd45_2 rfl fun a hk=>sl rfl hk rfl rfl rfl ag43 (box_cell hs (k:=6) rfl rfl) fun a hk=>mv hk rfl fun a hk=>?_
   obtain ⟨c42,H⟩:=ite_no H
   obtain ⟨b43,q44,hAc42⟩:=(v3_3).some_ u19 c42.1 c42.2
   refine si rfl hk rfl rfl rfl rfl un43 sz42 c42.1 c42.2 hAc42 fun a hk=>?_
   obtain ⟨_,⟨_,rfl,A46,p47,rfl,v48⟩,e45⟩:=(v3_3).at_ [] u19 c42.1 c42.2
   refine sl (v:=(vL A46 (x3.Oram.Buckets.getD u19.toNat []).length p47)) rfl hk rfl rfl rfl ag42 ((e45 0 _ rfl).cell (hs.hasD (k:=4) rfl)) fun a hk=>?_
   obtain ⟨y49,h50,H⟩:=bind_some H
   refine sc rfl en49 hk rfl rfl rfl (spec_l12Bucket_t _ A46 p47 (x3.Oram.Buckets.getD u19.toNat []) _ v48 (hs.hasD (k:=4) rfl) _ h50) ?_
   rintro _ w ⟨rfl,hG⟩ a hk
   have hs:=hs.call0 hG
   obtain ⟨y51,h52,H⟩:=bind_some H
   refine sc rfl en47 hk rfl rfl rfl (spec_l06Seal_t _ x0 2 (w64 ((w64 ((w64 (16*x1))+1))+u19)) x2 y49 _ h52) ?_
   rintro _ w ⟨rfl,hG⟩ a hk
   have hs:=hs.call0 hG
   refine sbs (L:=Lay.str) (pv:=[(0,(vS y51))]) (xs:=[y51]) (ess:=[[vS y51]]) 9 hs rfl hk rfl rfl rfl un25 (bs9_12 y51) (AllOwn.cons0 ⟨rfl,rfl⟩ AllOwn.nil) rfl rfl rfl fun b53 k54 w a hk o55 hs=>?_
   obtain ⟨c56,H⟩:=ite_no H
   refine sap 7 (xs:=u20) (ys:=[y51]) (flat_flat:(Lay.str).Flat) hs rfl o22 o55.view (hs.hasG (k:=9) rfl) rfl hk rfl rfl rfl rfl rfl rfl un25 mk9 rfl rfl rfl c56 fun A57 p58 k59 w a hk o60 hs=>mv hk rfl fun a hk=>nx hK41 ?_
   apply wp_region_lit
   refine mv hk rfl fun a hk=>sv (vI iS (w64 (u19+1))) hk rfl rfl rfl fun a hk=>mv hk rfl fun a hk=>?_
   show wpList _ _ _ [] _ _
   refine wpList_nil ?_
   obtain rfl:=osi H
   obtain ⟨m61,hmm61,h37⟩:=h37
   show ∃ n',n'<_∧I34 n' _ _
   refine ⟨m61,hmm61,?_⟩
   rw [hI34]
   exact ⟨_,_,A57,p58,_,h37,(hk.al rfl),(hs.pick [(7,7),(6,6)] rfl),o60⟩
  have hk:=hk.lit 23 c40 rfl
  refine cnd_false hk rfl rfl <| wp_exit ?_
  obtain rfl:=osi H
  show R33 _ _
  rw [hR33]
  exact ⟨_,A23,p24,_,h37.symm,(hk.al rfl),(hs.pick [(7,7)] rfl),o22⟩
 intro a w hR0
 rw [hR33] at hR0
 obtain ⟨u25,A28,p29,k26,rfl,hk,hs,o27⟩:=hR0
 have H:=HL32
 try dsimp only at H
 refine hK11 _ _ <| sr fun _ hK62=>mv hk rfl fun a hk=>mv hk rfl fun a hk=>nx hK62 <| wp_ret ?_
 obtain rfl:=osi H
 exact fin hk _ [(vL A28 u25.length p29)] rfl ⟨rfl,trivial⟩ ⟨A28,p29,_,rfl,o27,(hs.pick [(0,7)] rfl).dnil⟩
noncomputable def spec_l01Word.f (x0:ByteArray) (x1:Int):Option (Int) :=
  (if 0≤x1∧x1<(x0.size:Int) then (if 0≤(w64 (x1+1))∧(w64 (x1+1))<(x0.size:Int) then (if 0≤(w64 (x1+2))∧(w64 (x1+2))<(x0.size:Int) then (if 0≤(w64 (x1+3))∧(w64 (x1+3))<(x0.size:Int) then (some (wR iS ((bO 64 (wR iS ((bO 64 (wR iS ((bO 64 (wR iS ((wR iS (byteAt x0 x1))*2 ^ 24)) ||| bO 64 (wR iS ((wR iS (byteAt x0 (w64 (x1+1))))*2 ^ 16))).toNat:Int)) ||| bO 64 (wR iS ((wR iS (byteAt x0 (w64 (x1+2))))*2 ^ 8))).toNat:Int)) ||| bO 64 (wR iS (byteAt x0 (w64 (x1+3))))).toNat:Int))) else none) else none) else none) else none)
theorem spec_l01Word_t (w0:World) (x0:ByteArray) (x1:Int) (r:Int) (H:spec_l01Word.f x0 x1=some r) :
    Calls Tryz.prog 93 #[vS x0,vI iS x1] w0 (Ret (fun v w=>v=vI iS r∧Sat [] w0 w [] [])):=by
 have hs:=sat0 w0 [] (by simp)
 unfold spec_l01Word.f at H
 refine enter Tryz.func93 rfl Tryz.ntmps93 rfl fun a hk=>sr fun _ hK1=>mv hk rfl fun a hk=>nx hK1 <| sq fun _ hK2=>wp_region_tree (.q 0 (.q 1 (.q 2 (.q 3 (.q 4 (.q 5 (.q 6 (.q 7 (.q 8 (.q 9 (.q 10 (.q 11 (.q 12 (.q 13 (.q 14 (.q 15 (.q 16 (.q 17 (.q 18 (.q 19 (.alt 20 (.alt 21 (.alt 22 (.alt 23 (.alt 24 (.last 25) .stop) .stop) .stop) .stop) .stop))))))))))))))))))))) mo (by kernel_rfl) (hs.pick [] rfl) fun _=>?_
 have hs:=hs.drew
 refine tqm hk rfl fun a hk=>tqm hk rfl fun a hk=>?_
 obtain ⟨c4,H⟩:=ite_no H
 refine tqst _ hk rfl rfl rfl rfl (fun w hs=>six rfl hk rfl rfl rfl rfl un9 c4.1 c4.2 fun a hk=>qe hk) fun a hk=>tqst _ hk rfl rfl rfl rfl (fun w hs=>scn rfl hk rfl rfl rfl un3 un5 fun a hk=>qe hk) fun a hk=>tqv (vI iS (wR iS ((wR iS (byteAt x0 x1))*2 ^ 24))) hk rfl rfl (fun _=>rfl) fun a hk=>tqm hk rfl fun a hk=>tqm hk rfl fun a hk=>tqv (vI iS (w64 (x1+1))) hk rfl rfl (fun _=>rfl) fun a hk=>?_
 obtain ⟨c5,H⟩:=ite_no H
 refine tqst _ hk rfl rfl rfl rfl (fun w hs=>six rfl hk rfl rfl rfl rfl un9 c5.1 c5.2 fun a hk=>qe hk) fun a hk=>tqst _ hk rfl rfl rfl rfl (fun w hs=>scn rfl hk rfl rfl rfl un3 un5 fun a hk=>qe hk) fun a hk=>tqv (vI iS (wR iS ((wR iS (byteAt x0 (w64 (x1+1))))*2 ^ 16))) hk rfl rfl (fun _=>rfl) fun a hk=>tqv (vI iS (bio6 (wR iS ((wR iS (byteAt x0 x1))*2 ^ 24)) (wR iS ((wR iS (byteAt x0 (w64 (x1+1))))*2 ^ 16)))) hk rfl rfl (fun _=>rfl) fun a hk=>tqm hk rfl fun a hk=>tqm hk rfl fun a hk=>tqv (vI iS (w64 (x1+2))) hk rfl rfl (fun _=>rfl) fun a hk=>?_
 obtain ⟨c6,H⟩:=ite_no H
 refine tqst _ hk rfl rfl rfl rfl (fun w hs=>six rfl hk rfl rfl rfl rfl un9 c6.1 c6.2 fun a hk=>qe hk) fun a hk=>tqst _ hk rfl rfl rfl rfl (fun w hs=>scn rfl hk rfl rfl rfl un3 un5 fun a hk=>qe hk) fun a hk=>tqv (vI iS (wR iS ((wR iS (byteAt x0 (w64 (x1+2))))*2 ^ 8))) hk rfl rfl (fun _=>rfl) fun a hk=>tqv (vI iS (bio6 (bio6 (wR iS ((wR iS (byteAt x0 x1))*2 ^ 24)) (wR iS ((wR iS (byteAt x0 (w64 (x1+1))))*2 ^ 16))) (wR iS ((wR iS (byteAt x0 (w64 (x1+2))))*2 ^ 8)))) hk rfl rfl (fun _=>rfl) fun a hk=>tqm hk rfl fun a hk=>tss hs hk rfl rfl fun _ hK_r3_20 w hs=>mv hk rfl fun a hk=>se (hs.pick [] rfl) hk (hK_r3_20 _ _ ?_)
 refine tss hs hk rfl rfl fun _ hK_r3_21 w hs=>sv (vI iS (w64 (x1+3))) hk rfl rfl rfl fun a hk=>se (hs.pick [] rfl) hk (hK_r3_21 _ _ ?_)
 refine tss hs hk rfl rfl fun _ hK_r3_22 w hs=>?_
 obtain ⟨c7,H⟩:=ite_no H
 refine six rfl hk rfl rfl rfl rfl un9 c7.1 c7.2 fun a hk=>se (hs.pick [] rfl) hk (hK_r3_22 _ _ ?_)
 refine tss hs hk rfl rfl fun _ hK_r3_23 w hs=>scn rfl hk rfl rfl rfl un3 un5 fun a hk=>se (hs.pick [] rfl) hk (hK_r3_23 _ _ ?_)
 refine tss hs hk rfl rfl fun _ hK_r3_24 w hs=>sv (vI iS (bio6 (bio6 (bio6 (wR iS ((wR iS (byteAt x0 x1))*2 ^ 24)) (wR iS ((wR iS (byteAt x0 (w64 (x1+1))))*2 ^ 16))) (wR iS ((wR iS (byteAt x0 (w64 (x1+2))))*2 ^ 8))) (wR iS (byteAt x0 (w64 (x1+3)))))) hk rfl rfl rfl fun a hk=>se (hs.pick [] rfl) hk (hK_r3_24 _ _ ?_)
 refine tlst hk rfl rfl fun K_r3_25 hK_r3_25 w hF=>?_
 have hs:=hs.f hF
 refine mv hk rfl fun a hk=>se trivial hk (hK_r3_25 _ _ fun w hF=>?_)
 have hs:=hs.f hF
 refine hK2 _ _ <| wp_ret ?_
 obtain rfl:=osi H
 exact fin hk _ [(vI iS (bio6 (bio6 (bio6 (wR iS ((wR iS (byteAt x0 x1))*2 ^ 24)) (wR iS ((wR iS (byteAt x0 (w64 (x1+1))))*2 ^ 16))) (wR iS ((wR iS (byteAt x0 (w64 (x1+2))))*2 ^ 8))) (wR iS (byteAt x0 (w64 (x1+3))))))] rfl ⟨rfl,trivial⟩ ⟨rfl,(hs.pick [] rfl).dnil⟩
noncomputable def spec_l01Right.f (x0:Int) (x1:Int):Option (Int) :=
  (if 0≤x1 then (if 0≤(w64 (32-x1)) then (some (wR iS ((bO 64 (wR iS ((bO 64 (Int.fdiv x0 (2 ^ min x1.toNat 64)) ||| bO 64 (wR iS (x0*2 ^ min (w64 (32-x1)).toNat 64))).toNat:Int)) &&& bO 64 4294967295).toNat:Int))) else none) else none)
theorem spec_l01Right_t (w0:World) (x0:Int) (x1:Int) (r:Int) (H:spec_l01Right.f x0 x1=some r) :
    Calls Tryz.prog 94 #[vI iS x0,vI iS x1] w0 (Ret (fun v w=>v=vI iS r∧Sat [] w0 w [] [])):=by
 have hs:=sat0 w0 [] (by simp)
 unfold spec_l01Right.f at H
 refine enter Tryz.func94 rfl Tryz.ntmps94 rfl fun a hk=>sr fun _ hK1=>mv hk rfl fun a hk=>nx hK1 <| sq fun _ hK2=>wp_region_tree (.q 0 (.q 1 (.q 2 (.q 3 (.alt 4 (.alt 5 (.alt 6 (.alt 7 (.alt 8 (.last 9) .stop) .stop) .stop) .stop) .stop))))) mo (by kernel_rfl) (hs.pick [] rfl) fun _=>?_
 have hs:=hs.drew
 refine tqm hk rfl fun a hk=>tqm hk rfl fun a hk=>?_
 obtain ⟨c4,H⟩:=ite_no H
 refine tqst _ hk rfl rfl rfl rfl (fun w hs=>ssr rfl hk rfl rfl rfl rfl c4 fun a hk=>qe hk) fun a hk=>tqm hk rfl fun a hk=>tss hs hk rfl rfl fun _ hK_r3_4 w hs=>mv hk rfl fun a hk=>se (hs.pick [] rfl) hk (hK_r3_4 _ _ ?_)
 refine tss hs hk rfl rfl fun _ hK_r3_5 w hs=>sv (vI iS (w64 (32-x1))) hk rfl rfl rfl fun a hk=>se (hs.pick [] rfl) hk (hK_r3_5 _ _ ?_)
 refine tss hs hk rfl rfl fun _ hK_r3_6 w hs=>?_
 obtain ⟨c5,H⟩:=ite_no H
 refine ssh rfl hk rfl rfl rfl rfl c5 fun a hk=>se (hs.pick [] rfl) hk (hK_r3_6 _ _ ?_)
 refine tss hs hk rfl rfl fun _ hK_r3_7 w hs=>sv (vI iS (bio6 (Int.fdiv x0 (2 ^ min x1.toNat 64)) (wR iS (x0*2 ^ min (w64 (32-x1)).toNat 64)))) hk rfl rfl rfl fun a hk=>se (hs.pick [] rfl) hk (hK_r3_7 _ _ ?_)
 refine tss hs hk rfl rfl fun _ hK_r3_8 w hs=>sv (vI iS (bia6 (bio6 (Int.fdiv x0 (2 ^ min x1.toNat 64)) (wR iS (x0*2 ^ min (w64 (32-x1)).toNat 64))) 4294967295)) hk rfl rfl rfl fun a hk=>se (hs.pick [] rfl) hk (hK_r3_8 _ _ ?_)
 refine tlst hk rfl rfl fun K_r3_9 hK_r3_9 w hF=>?_
 have hs:=hs.f hF
 refine mv hk rfl fun a hk=>se trivial hk (hK_r3_9 _ _ fun w hF=>?_)
 have hs:=hs.f hF
 refine hK2 _ _ <| wp_ret ?_
 obtain rfl:=osi H
 exact fin hk _ [(vI iS (bia6 (bio6 (Int.fdiv x0 (2 ^ min x1.toNat 64)) (wR iS (x0*2 ^ min (w64 (32-x1)).toNat 64))) 4294967295))] rfl ⟨rfl,trivial⟩ ⟨rfl,(hs.pick [] rfl).dnil⟩
noncomputable def spec_l01Table.f  : Option ((List Int)) :=
  (some ([1116352408,1899447441,3049323471,3921009573,961987163,1508970993,2453635748,2870763221,3624381080,310598401,607225278,1426881987,1925078388,2162078206,2614888103,3248222580,3835390401,4022224774,264347078,604807628,770255983,1249150122,1555081692,1996064986,2554220882,2821834349,2952996808,3210313671,3336571891,3584528711,113926993,338241895,666307205,773529912,1294757372,1396182291,1695183700,1986661051,2177026350,2456956037,2730485921,2820302411,3259730800,3345764771,3516065817,3600352804,4094571909,275423344,430227734,506948616,659060556,883997877,958139571,1322822218,1537002063,1747873779,1955562222,2024104815,2227730452,2361852424,2428436474,2756734187,3204031479,3329325298]:List Int))
theorem spec_l01Table_t (w0:World)  (r:(List Int)) (H:spec_l01Table.f  = some r) :
    Calls Tryz.prog 95 #[] w0 (Ret (fun v w=>v=aggI .i64 r∧r.length=64∧Sat [] w0 w [] [])):=by
 have hs:=sat0 w0 [] (by simp)
 unfold spec_l01Table.f at H
 refine enter Tryz.func95 rfl Tryz.ntmps95 rfl fun a hk=>sr fun _ hK1=>sala 1 ((Lay.int iS)) (m:=64) (z:=0) (zc:=[vI iS 0]) hs rfl hk rfl rfl ze117 (by exact ⟨rfl,rfl⟩) rfl rfl rfl fun b2 k3 w a hk o4 hs=>?_
 have lh5:(List.replicate 64 (0:Int)).length=64:=List.length_replicate
 refine nx hK1 <| sr fun _ hK6=>sbd (pv:=[(0,(vI iS 1116352408)),(1,(vI iS 1899447441)),(2,(vI iS 3049323471)),(3,(vI iS 3921009573)),(4,(vI iS 961987163)),(5,(vI iS 1508970993)),(6,(vI iS 2453635748)),(7,(vI iS 2870763221)),(8,(vI iS 3624381080)),(9,(vI iS 310598401)),(10,(vI iS 607225278)),(11,(vI iS 1426881987)),(12,(vI iS 1925078388)),(13,(vI iS 2162078206)),(14,(vI iS 2614888103)),(15,(vI iS 3248222580)),(16,(vI iS 3835390401)),(17,(vI iS 4022224774)),(18,(vI iS 264347078)),(19,(vI iS 604807628)),(20,(vI iS 770255983)),(21,(vI iS 1249150122)),(22,(vI iS 1555081692)),(23,(vI iS 1996064986)),(24,(vI iS 2554220882)),(25,(vI iS 2821834349)),(26,(vI iS 2952996808)),(27,(vI iS 3210313671)),(28,(vI iS 3336571891)),(29,(vI iS 3584528711)),(30,(vI iS 113926993)),(31,(vI iS 338241895)),(32,(vI iS 666307205)),(33,(vI iS 773529912)),(34,(vI iS 1294757372)),(35,(vI iS 1396182291)),(36,(vI iS 1695183700)),(37,(vI iS 1986661051)),(38,(vI iS 2177026350)),(39,(vI iS 2456956037)),(40,(vI iS 2730485921)),(41,(vI iS 2820302411)),(42,(vI iS 3259730800)),(43,(vI iS 3345764771)),(44,(vI iS 3516065817)),(45,(vI iS 3600352804)),(46,(vI iS 4094571909)),(47,(vI iS 275423344)),(48,(vI iS 430227734)),(49,(vI iS 506948616)),(50,(vI iS 659060556)),(51,(vI iS 883997877)),(52,(vI iS 958139571)),(53,(vI iS 1322822218)),(54,(vI iS 1537002063)),(55,(vI iS 1747873779)),(56,(vI iS 1955562222)),(57,(vI iS 2024104815)),(58,(vI iS 2227730452)),(59,(vI iS 2361852424)),(60,(vI iS 2428436474)),(61,(vI iS 2756734187)),(62,(vI iS 3204031479)),(63,(vI iS 3329325298))]) rfl hk rfl rfl rfl (bd117_13 1116352408 1899447441 3049323471 3921009573 961987163 1508970993 2453635748 2870763221 3624381080 310598401 607225278 1426881987 1925078388 2162078206 2614888103 3248222580 3835390401 4022224774 264347078 604807628 770255983 1249150122 1555081692 1996064986 2554220882 2821834349 2952996808 3210313671 3336571891 3584528711 113926993 338241895 666307205 773529912 1294757372 1396182291 1695183700 1986661051 2177026350 2456956037 2730485921 2820302411 3259730800 3345764771 3516065817 3600352804 4094571909 275423344 430227734 506948616 659060556 883997877 958139571 1322822218 1537002063 1747873779 1955562222 2024104815 2227730452 2361852424 2428436474 2756734187 3204031479 3329325298) fun a hk=>?_
 have lh7:([1116352408,1899447441,3049323471,3921009573,961987163,1508970993,2453635748,2870763221,3624381080,310598401,607225278,1426881987,1925078388,2162078206,2614888103,3248222580,3835390401,4022224774,264347078,604807628,770255983,1249150122,1555081692,1996064986,2554220882,2821834349,2952996808,3210313671,3336571891,3584528711,113926993,338241895,666307205,773529912,1294757372,1396182291,1695183700,1986661051,2177026350,2456956037,2730485921,2820302411,3259730800,3345764771,3516065817,3600352804,4094571909,275423344,430227734,506948616,659060556,883997877,958139571,1322822218,1537002063,1747873779,1955562222,2024104815,2227730452,2361852424,2428436474,2756734187,3204031479,3329325298]:List Int).length=64:=rfl
 refine sswa 1 ([1116352408,1899447441,3049323471,3921009573,961987163,1508970993,2453635748,2870763221,3624381080,310598401,607225278,1426881987,1925078388,2162078206,2614888103,3248222580,3835390401,4022224774,264347078,604807628,770255983,1249150122,1555081692,1996064986,2554220882,2821834349,2952996808,3210313671,3336571891,3584528711,113926993,338241895,666307205,773529912,1294757372,1396182291,1695183700,1986661051,2177026350,2456956037,2730485921,2820302411,3259730800,3345764771,3516065817,3600352804,4094571909,275423344,430227734,506948616,659060556,883997877,958139571,1322822218,1537002063,1747873779,1955562222,2024104815,2227730452,2361852424,2428436474,2756734187,3204031479,3329325298]:List Int) hs rfl o4 lh5 lh7 rfl rfl hk rfl rfl rfl rfl sz117 fun k8 w a hk o9 hs=>nx hK6 <| wp_ret ?_
 obtain rfl:=osi H
 exact fin hk _ [(aggI .i64 ([1116352408,1899447441,3049323471,3921009573,961987163,1508970993,2453635748,2870763221,3624381080,310598401,607225278,1426881987,1925078388,2162078206,2614888103,3248222580,3835390401,4022224774,264347078,604807628,770255983,1249150122,1555081692,1996064986,2554220882,2821834349,2952996808,3210313671,3336571891,3584528711,113926993,338241895,666307205,773529912,1294757372,1396182291,1695183700,1986661051,2177026350,2456956037,2730485921,2820302411,3259730800,3345764771,3516065817,3600352804,4094571909,275423344,430227734,506948616,659060556,883997877,958139571,1322822218,1537002063,1747873779,1955562222,2024104815,2227730452,2361852424,2428436474,2756734187,3204031479,3329325298]:List Int))] rfl ⟨⟨_,rfl,run_loadA ag117 sz117 o9 lh7 hs (q:=1) rfl⟩,trivial⟩ ⟨rfl,lh7,(hs.pick [] rfl).dnil⟩
noncomputable def spec_l01Block.s0 (x1:ByteArray) (u21:List Int) (u25:Int):Option (((List Int)×Int) ⊕ Ex ((List Int)) ((List Int))) :=
  (bif (decide (u25<16)) then ((spec_l01Word.f x1 (w64 (4*u25))).bind fun y42=>(if 0≤u25∧u25<(64:Int) then (some (.inl ((u21.set u25.toNat y42),(w64 (u25+1))))) else none)) else (some (.inr (.out u21))))
noncomputable def spec_l01Block.s1  (u55:List Int) (u59:Int):Option (((List Int)×Int) ⊕ Ex ((List Int)) ((List Int))) :=
  (bif (decide (u59<64)) then (if 0≤(w64 (u59-15))∧(w64 (u59-15))<(64:Int) then ((spec_l01Right.f (u55.getD (w64 (u59-15)).toNat 0) 7).bind fun y82=>(if 0≤(w64 (u59-15))∧(w64 (u59-15))<(64:Int) then ((spec_l01Right.f (u55.getD (w64 (u59-15)).toNat 0) 18).bind fun y88=>(if 0≤(w64 (u59-15))∧(w64 (u59-15))<(64:Int) then (if 0≤(w64 (u59-2))∧(w64 (u59-2))<(64:Int) then ((spec_l01Right.f (u55.getD (w64 (u59-2)).toNat 0) 17).bind fun y100=>(if 0≤(w64 (u59-2))∧(w64 (u59-2))<(64:Int) then ((spec_l01Right.f (u55.getD (w64 (u59-2)).toNat 0) 19).bind fun y106=>(if 0≤(w64 (u59-2))∧(w64 (u59-2))<(64:Int) then (if 0≤(w64 (u59-16))∧(w64 (u59-16))<(64:Int) then (if 0≤(w64 (u59-7))∧(w64 (u59-7))<(64:Int) then (if 0≤u59∧u59<(64:Int) then (some (.inl ((u55.set u59.toNat (wR iS ((bO 64 (w64 ((w64 ((w64 ((u55.getD (w64 (u59-16)).toNat 0)+(wR iS ((bO 64 (wR iS ((bO 64 y82 ^^^ bO 64 y88).toNat:Int)) ^^^ bO 64 (Int.fdiv (u55.getD (w64 (u59-15)).toNat 0) (2 ^ 3))).toNat:Int))))+(u55.getD (w64 (u59-7)).toNat 0)))+(wR iS ((bO 64 (wR iS ((bO 64 y100 ^^^ bO 64 y106).toNat:Int)) ^^^ bO 64 (Int.fdiv (u55.getD (w64 (u59-2)).toNat 0) (2 ^ 10))).toNat:Int)))) &&& bO 64 4294967295).toNat:Int))),(w64 (u59+1))))) else none) else none) else none) else none)) else none)) else none) else none)) else none)) else none) else (some (.inr (.out u55))))
noncomputable def spec_l01Block.s2 (u60:List Int) (y129:(List Int)) (u149:List Int) (u153:Int):Option (((List Int)×Int) ⊕ Ex ((List Int)) ((List Int))) :=
  (bif (decide (u153<64)) then (if 0≤(4:Int)∧(4:Int)<(8:Int) then ((spec_l01Right.f (u149.getD (4:Int).toNat 0) 6).bind fun y176=>(if 0≤(4:Int)∧(4:Int)<(8:Int) then ((spec_l01Right.f (u149.getD (4:Int).toNat 0) 11).bind fun y182=>(if 0≤(4:Int)∧(4:Int)<(8:Int) then ((spec_l01Right.f (u149.getD (4:Int).toNat 0) 25).bind fun y188=>(if 0≤(4:Int)∧(4:Int)<(8:Int) then (if 0≤(5:Int)∧(5:Int)<(8:Int) then (if 0≤(4:Int)∧(4:Int)<(8:Int) then (if 0≤(6:Int)∧(6:Int)<(8:Int) then (if 0≤(7:Int)∧(7:Int)<(8:Int) then (if 0≤u153∧u153<(64:Int) then (if 0≤u153∧u153<(64:Int) then (if 0≤(0:Int)∧(0:Int)<(8:Int) then ((spec_l01Right.f (u149.getD (0:Int).toNat 0) 2).bind fun y227=>(if 0≤(0:Int)∧(0:Int)<(8:Int) then ((spec_l01Right.f (u149.getD (0:Int).toNat 0) 13).bind fun y233=>(if 0≤(0:Int)∧(0:Int)<(8:Int) then ((spec_l01Right.f (u149.getD (0:Int).toNat 0) 22).bind fun y239=>(if 0≤(0:Int)∧(0:Int)<(8:Int) then (if 0≤(1:Int)∧(1:Int)<(8:Int) then (if 0≤(0:Int)∧(0:Int)<(8:Int) then (if 0≤(2:Int)∧(2:Int)<(8:Int) then (if 0≤(1:Int)∧(1:Int)<(8:Int) then (if 0≤(2:Int)∧(2:Int)<(8:Int) then (if 0≤(0:Int)∧(0:Int)<(8:Int) then (if 0≤(1:Int)∧(1:Int)<(8:Int) then (if 0≤(2:Int)∧(2:Int)<(8:Int) then (if 0≤(3:Int)∧(3:Int)<(8:Int) then (if 0≤(4:Int)∧(4:Int)<(8:Int) then (if 0≤(5:Int)∧(5:Int)<(8:Int) then (if 0≤(6:Int)∧(6:Int)<(8:Int) then (some (.inl (([(wR iS ((bO 64 (w64 ((w64 ((w64 ((w64 ((w64 ((w64 ((u149.getD (7:Int).toNat 0)+(wR iS ((bO 64 (wR iS ((bO 64 y176 ^^^ bO 64 y182).toNat:Int)) ^^^ bO 64 y188).toNat:Int))))+(wR iS ((bO 64 (wR iS ((bO 64 (u149.getD (4:Int).toNat 0) &&& bO 64 (u149.getD (5:Int).toNat 0)).toNat:Int)) ^^^ bO 64 (wR iS ((bO 64 (wR iS ((bO 64 4294967295 ^^^ bO 64 (u149.getD (4:Int).toNat 0)).toNat:Int)) &&& bO 64 (u149.getD (6:Int).toNat 0)).toNat:Int))).toNat:Int))))+(y129.getD u153.toNat 0)))+(u60.getD u153.toNat 0)))+(wR iS ((bO 64 (wR iS ((bO 64 y227 ^^^ bO 64 y233).toNat:Int)) ^^^ bO 64 y239).toNat:Int))))+(wR iS ((bO 64 (wR iS ((bO 64 (wR iS ((bO 64 (u149.getD (0:Int).toNat 0) &&& bO 64 (u149.getD (1:Int).toNat 0)).toNat:Int)) ^^^ bO 64 (wR iS ((bO 64 (u149.getD (0:Int).toNat 0) &&& bO 64 (u149.getD (2:Int).toNat 0)).toNat:Int))).toNat:Int)) ^^^ bO 64 (wR iS ((bO 64 (u149.getD (1:Int).toNat 0) &&& bO 64 (u149.getD (2:Int).toNat 0)).toNat:Int))).toNat:Int)))) &&& bO 64 4294967295).toNat:Int)),(u149.getD (0:Int).toNat 0),(u149.getD (1:Int).toNat 0),(u149.getD (2:Int).toNat 0),(wR iS ((bO 64 (w64 ((u149.getD (3:Int).toNat 0)+(w64 ((w64 ((w64 ((w64 ((u149.getD (7:Int).toNat 0)+(wR iS ((bO 64 (wR iS ((bO 64 y176 ^^^ bO 64 y182).toNat:Int)) ^^^ bO 64 y188).toNat:Int))))+(wR iS ((bO 64 (wR iS ((bO 64 (u149.getD (4:Int).toNat 0) &&& bO 64 (u149.getD (5:Int).toNat 0)).toNat:Int)) ^^^ bO 64 (wR iS ((bO 64 (wR iS ((bO 64 4294967295 ^^^ bO 64 (u149.getD (4:Int).toNat 0)).toNat:Int)) &&& bO 64 (u149.getD (6:Int).toNat 0)).toNat:Int))).toNat:Int))))+(y129.getD u153.toNat 0)))+(u60.getD u153.toNat 0))))) &&& bO 64 4294967295).toNat:Int)),(u149.getD (4:Int).toNat 0),(u149.getD (5:Int).toNat 0),(u149.getD (6:Int).toNat 0)]:List Int),(w64 (u153+1))))) else none) else none) else none) else none) else none) else none) else none) else none) else none) else none) else none) else none) else none)) else none)) else none)) else none) else none) else none) else none) else none) else none) else none) else none)) else none)) else none)) else none) else (some (.inr (.out u149))))
noncomputable def spec_l01Block.s3 (u154:List Int) (u302:List Int) (u306:Int):Option (((List Int)×Int) ⊕ Ex ((List Int)) ((List Int))) :=
  (bif (decide (u306<8)) then (if 0≤u306∧u306<(8:Int) then (if 0≤u306∧u306<(8:Int) then (if 0≤u306∧u306<(8:Int) then (some (.inl ((u302.set u306.toNat (wR iS ((bO 64 (w64 ((u302.getD u306.toNat 0)+(u154.getD u306.toNat 0))) &&& bO 64 4294967295).toNat:Int))),(w64 (u306+1))))) else none) else none) else none) else (some (.inr (.out u302))))
noncomputable def spec_l01Block.f (x0:List Int) (x1:ByteArray):Option ((List Int)) :=
  ((loopO (fun s=>spec_l01Block.s0 x1 s.1 s.2) ((List.replicate 64 (0:Int)),0)).bind fun o=>match o with | .out u26=>((loopO (fun s=>spec_l01Block.s1  s.1 s.2) (u26,16)).bind fun o=>match o with | .out u60=>((spec_l01Table.f).bind fun y129=>((loopO (fun s=>spec_l01Block.s2 u60 y129 s.1 s.2) (x0,0)).bind fun o=>match o with | .out u154=>((loopO (fun s=>spec_l01Block.s3 u154 s.1 s.2) (x0,0)).bind fun o=>match o with | .out u307=>(some u307) | .ret r=>(some r)) | .ret r=>(some r))) | .ret r=>(some r)) | .ret r=>(some r))
theorem spec_l01Block_t (w0:World) (x0:List Int) (e0_:x0.length=8) (x1:ByteArray) (r:(List Int)) (H:spec_l01Block.f x0 x1=some r) :
    Calls Tryz.prog 75 #[aggI .i64 x0,vS x1] w0 (Ret (fun v w=>v=aggI .i64 r∧r.length=8∧Sat [] w0 w [] [])):=by
 have hs:=sat0 w0 [] (by simp)
 unfold spec_l01Block.f at H
 refine enter Tryz.func75 rfl Tryz.ntmps75 rfl fun a hk=>sr fun _ hK1=>sbxa 1 hs rfl hk rfl rfl rfl e0_ rfl fun b2 k3 w a hk o4 hs=>sala 2 ((Lay.int iS)) (m:=8) (z:=0) (zc:=[vI iS 0]) hs rfl hk rfl rfl ze77 (by exact ⟨rfl,rfl⟩) rfl rfl rfl fun b5 k6 w a hk o7 hs=>?_
 have lh8:(List.replicate 8 (0:Int)).length=8:=List.length_replicate
 refine nx hK1 <| sr fun _ hK9=>sbd (pv:=[]) rfl hk rfl rfl rfl bd117_14 fun a hk=>?_
 have lh10:(List.replicate 64 (0:Int)).length=64:=List.length_replicate
 refine sala 3 ((Lay.int iS)) (m:=64) (z:=0) (zc:=[vI iS 0]) hs rfl hk rfl rfl ze117 (by exact ⟨rfl,rfl⟩) rfl rfl rfl fun b11 k12 w a hk o13 hs=>?_
 have lh14:(List.replicate 64 (0:Int)).length=64:=List.length_replicate
 refine sswa 3 (List.replicate 64 (0:Int)) hs rfl o13 lh14 lh10 rfl rfl hk rfl rfl rfl rfl sz117 fun k15 w a hk o16 hs=>nx hK9 <| sq fun _ hK17=>sr fun _ hK18=>mv hk rfl fun a hk=>nx hK18 ?_
 obtain ⟨o30,h31,HL32⟩:=bind_some H
 clear H
 obtain ⟨R33,hR33⟩:=nm fun a w=>∃ (u26:List Int) (k27:Chunk),o30 = .out u26∧Kn [(2,(vP (some ⟨b2,0,none⟩))),(4,(vP (some ⟨b5,0,none⟩))),(5,(vP (some ⟨b11,0,none⟩)))] 194 a∧Sat [] w0 w [] [(1,k3),(2,k6),(3,k27)]∧Own (Lay.int iS) 117 (some ⟨b11,0,none⟩) 64 u26 k27∧u26.length=64
 refine wp_cutq R33 ?_ ?_
 ·refine wp_block ?_
  obtain ⟨fu35,h31⟩:=loopO_some h31
  obtain ⟨I34,hI34⟩:=nm fun fu a w=>∃ (u21:List Int) (u25:Int) (k22:Chunk),loopN (fun s=>spec_l01Block.s0 x1 s.1 s.2) fu (u21,u25)=some o30∧Kn [(1,(vS x1)),(2,(vP (some ⟨b2,0,none⟩))),(4,(vP (some ⟨b5,0,none⟩))),(5,(vP (some ⟨b11,0,none⟩))),(6,(vI iS u25))] 194 a∧Sat [] w0 w [] [(1,k3),(2,k6),(3,k22)]∧Own (Lay.int iS) 117 (some ⟨b11,0,none⟩) 64 u21 k22∧u21.length=64
  refine wp_loop_ghost I34 fu35 ?_ ?_
  ·rw [hI34]
   exact ⟨_,_,_,h31,(hk.al rfl),(hs.pick [(1,1),(2,2),(3,3)] rfl),o16,lh10⟩
  clear h31 hk hs
  intro fu35 a w hI0
  rw [hI34] at hI0
  obtain ⟨u21,u25,k22,hi,hk,hs,o23,lh24⟩:=hI0
  obtain ⟨x36,H,h37⟩:=loop_round hi
  try dsimp only at H
  unfold spec_l01Block.s0 at H
  refine sq fun _ hK38=>sr fun _ hK39=>mv hk rfl fun a hk=>sv (.bool (decide (u25<16))) hk rfl rfl rfl fun a hk=>nx hK39 ?_
  rcases cond_some H with ⟨c40,H⟩ | ⟨c40,H⟩
  ·have hk:=hk.lit 21 c40 rfl
   refine cnd_true hk rfl rfl <| wp_skip <| hK38 _ _ <| sq fun _ hK41=>wp_block ?_
   apply wp_region_lit
   refine mv hk rfl fun a hk=>mv hk rfl fun a hk=>mv hk rfl fun a hk=>sv (vI iS (w64 (4*u25))) hk rfl rfl rfl fun a hk=>?_
   obtain ⟨y42,h43,H⟩:=bind_some H
   refine sc rfl en93 hk rfl rfl rfl (spec_l01Word_t _ x1 (w64 (4*u25)) _ h43) ?_
   rintro _ w ⟨rfl,hG⟩ a hk
   have hs:=hs.call0 hG
   obtain ⟨c44,H⟩:=ite_no H
   obtain ⟨b45,q46,hAc44⟩:=(o23.view).some_ u25 c44.1 (by rw [lh24];exact c44.2)
   refine sia rfl hk rfl rfl rfl rfl un117 sz3 c44.1 c44.2 hAc44 fun a hk=>so (j:=0) 3 0 y42 hs rfl o23 c44.1 (by rw [lh24];exact c44.2) rfl hk rfl rfl rfl rfl rfl sz3 (by simp [Value.cells,Value.oneCell']) (Nat.le_of_ble_eq_true rfl) (fun _ _ h=>⟨by rw [h.1];rfl,h.2⟩) fun k47 w a hk o48 hs=>?_
   have lh49:(u21.set u25.toNat y42).length=64:=by rw [List.length_set];exact lh24
   refine nx hK41 ?_
   apply wp_region_lit
   refine mv hk rfl fun a hk=>sv (vI iS (w64 (u25+1))) hk rfl rfl rfl fun a hk=>mv hk rfl fun a hk=>?_
   show wpList _ _ _ [] _ _
   refine wpList_nil ?_
   obtain rfl:=osi H
   obtain ⟨m50,hmm50,h37⟩:=h37
   show ∃ n',n'<_∧I34 n' _ _
   refine ⟨m50,hmm50,?_⟩
   rw [hI34]
   exact ⟨_,_,_,h37,(hk.al rfl),(hs.pick [(1,1),(2,2),(3,3)] rfl),o48,lh49⟩
  have hk:=hk.lit 21 c40 rfl
  refine cnd_false hk rfl rfl <| wp_exit ?_
  obtain rfl:=osi H
  show R33 _ _
  rw [hR33]
  exact ⟨_,_,h37.symm,(hk.al rfl),(hs.pick [(1,1),(2,2),(3,3)] rfl),o23,lh24⟩
 intro a w hR0
 rw [hR33] at hR0
 obtain ⟨u26,k27,rfl,hk,hs,o28,lh29⟩:=hR0
 have H:=HL32
 try dsimp only at H
 refine hK17 _ _ <| sq fun _ hK51=>sr fun _ hK52=>mv hk rfl fun a hk=>nx hK52 ?_
 obtain ⟨o64,h65,HL66⟩:=bind_some H
 clear H
 obtain ⟨R67,hR67⟩:=nm fun a w=>∃ (u60:List Int) (k61:Chunk),o64 = .out u60∧Kn [(2,(vP (some ⟨b2,0,none⟩))),(4,(vP (some ⟨b5,0,none⟩))),(5,(vP (some ⟨b11,0,none⟩)))] 194 a∧Sat [] w0 w [] [(1,k3),(2,k6),(3,k61)]∧Own (Lay.int iS) 117 (some ⟨b11,0,none⟩) 64 u60 k61∧u60.length=64
 refine wp_cutq R67 ?_ ?_
 ·refine wp_block ?_
  obtain ⟨fu69,h65⟩:=loopO_some h65
  obtain ⟨I68,hI68⟩:=nm fun fu a w=>∃ (u55:List Int) (u59:Int) (k56:Chunk),loopN (fun s=>spec_l01Block.s1  s.1 s.2) fu (u55,u59)=some o64∧Kn [(2,(vP (some ⟨b2,0,none⟩))),(4,(vP (some ⟨b5,0,none⟩))),(5,(vP (some ⟨b11,0,none⟩))),(7,(vI iS u59))] 194 a∧Sat [] w0 w [] [(1,k3),(2,k6),(3,k56)]∧Own (Lay.int iS) 117 (some ⟨b11,0,none⟩) 64 u55 k56∧u55.length=64
  refine wp_loop_ghost I68 fu69 ?_ ?_
  ·rw [hI68]
   exact ⟨_,_,_,h65,(hk.al rfl),(hs.pick [(1,1),(2,2),(3,3)] rfl),o28,lh29⟩
  clear h65 hk hs
  intro fu69 a w hI0
  rw [hI68] at hI0
  obtain ⟨u55,u59,k56,hi,hk,hs,o57,lh58⟩:=hI0
  obtain ⟨x70,H,h71⟩:=loop_round hi
  try dsimp only at H
  unfold spec_l01Block.s1 at H
  refine sq fun _ hK72=>sr fun _ hK73=>mv hk rfl fun a hk=>sv (.bool (decide (u59<64))) hk rfl rfl rfl fun a hk=>nx hK73 ?_
  rcases cond_some H with ⟨c74,H⟩ | ⟨c74,H⟩
  ·have hk:=hk.lit 31 c74 rfl
   refine cnd_true hk rfl rfl <| wp_skip <| hK72 _ _ <| sq fun _ hK75=>wp_block ?_
   refine sq fun _ hK76=>wp_region_tree (.q 0 (.q 1 (.q 2 (.q 3 (.q 4 (.q 5 (.q 6 (.q 7 (.q 8 (.q 9 (.q 10 (.alt 11 (.alt 12 (.alt 13 (.alt 14 (.alt 15 (.alt 16 (.last 17) .stop) .stop) .stop) .stop) .stop) .stop)))))))))))) mo (by kernel_rfl) (hs.pick [(1,1),(2,2),(3,3)] rfl) fun _=>?_
   have hs:=hs.drew
   refine tqm hk rfl fun a hk=>tqv (vI iS (w64 (u59-15))) hk rfl rfl (fun _=>rfl) fun a hk=>?_
   obtain ⟨c78,H⟩:=ite_no H
   obtain ⟨b79,q80,hAc78⟩:=(o57.view).some_ (w64 (u59-15)) c78.1 (by rw [lh58];exact c78.2)
   refine tqst _ hk rfl rfl rfl rfl (fun w hs=>sia rfl hk rfl rfl rfl rfl un117 sz3 c78.1 c78.2 hAc78 fun a hk=>qe hk) fun a hk=>?_
   obtain ⟨_,rfl,e81⟩:=(o57.view).at_ 0 (w64 (u59-15)) c78.1 (by rw [lh58];exact c78.2)
   refine tqst _ hk rfl rfl rfl rfl (fun w hs=>sl (v:=(vI iS (u55.getD (w64 (u59-15)).toNat 0))) rfl hk rfl rfl rfl ag3 ((e81 0 _ rfl).cell (hs.hasG (k:=3) rfl)) fun a hk=>qe hk) fun a hk=>?_
   obtain ⟨y82,h83,H⟩:=bind_some H
   refine tqst (vI iS y82) hk rfl rfl rfl rfl (fun w hs=>sc rfl en94 hk rfl rfl rfl (spec_l01Right_t _ (u55.getD (w64 (u59-15)).toNat 0) 7 _ h83) fun _ w hR a hk=>qc hR hk) fun a hk=>tqm hk rfl fun a hk=>tqv (vI iS (w64 (u59-15))) hk rfl rfl (fun _=>rfl) fun a hk=>?_
   obtain ⟨c84,H⟩:=ite_no H
   obtain ⟨b85,q86,hAc84⟩:=(o57.view).some_ (w64 (u59-15)) c84.1 (by rw [lh58];exact c84.2)
   refine tqst _ hk rfl rfl rfl rfl (fun w hs=>sia rfl hk rfl rfl rfl rfl un117 sz3 c84.1 c84.2 hAc84 fun a hk=>qe hk) fun a hk=>?_
   obtain ⟨_,rfl,e87⟩:=(o57.view).at_ 0 (w64 (u59-15)) c84.1 (by rw [lh58];exact c84.2)
   refine tqst _ hk rfl rfl rfl rfl (fun w hs=>sl (v:=(vI iS (u55.getD (w64 (u59-15)).toNat 0))) rfl hk rfl rfl rfl ag3 ((e87 0 _ rfl).cell (hs.hasG (k:=3) rfl)) fun a hk=>qe hk) fun a hk=>?_
   obtain ⟨y88,h89,H⟩:=bind_some H
   refine tqst (vI iS y88) hk rfl rfl rfl rfl (fun w hs=>sc rfl en94 hk rfl rfl rfl (spec_l01Right_t _ (u55.getD (w64 (u59-15)).toNat 0) 18 _ h89) fun _ w hR a hk=>qc hR hk) fun a hk=>tqv (vI iS (bix6 y82 y88)) hk rfl rfl (fun _=>rfl) fun a hk=>tss hs hk rfl rfl fun _ hK_r77_11 w hs=>mv hk rfl fun a hk=>se (hs.pick [(1,1),(2,2),(3,3)] rfl) hk (hK_r77_11 _ _ ?_)
   refine tss hs hk rfl rfl fun _ hK_r77_12 w hs=>sv (vI iS (w64 (u59-15))) hk rfl rfl rfl fun a hk=>se (hs.pick [(1,1),(2,2),(3,3)] rfl) hk (hK_r77_12 _ _ ?_)
   refine tss hs hk rfl rfl fun _ hK_r77_13 w hs=>?_
   obtain ⟨c90,H⟩:=ite_no H
   obtain ⟨b91,q92,hAc90⟩:=(o57.view).some_ (w64 (u59-15)) c90.1 (by rw [lh58];exact c90.2)
   refine sia rfl hk rfl rfl rfl rfl un117 sz3 c90.1 c90.2 hAc90 fun a hk=>se (hs.pick [(1,1),(2,2),(3,3)] rfl) hk (hK_r77_13 _ _ ?_)
   refine tss hs hk rfl rfl fun _ hK_r77_14 w hs=>?_
   obtain ⟨_,rfl,e93⟩:=(o57.view).at_ 0 (w64 (u59-15)) c90.1 (by rw [lh58];exact c90.2)
   refine sl (v:=(vI iS (u55.getD (w64 (u59-15)).toNat 0))) rfl hk rfl rfl rfl ag3 ((e93 0 _ rfl).cell (hs.hasG (k:=3) rfl)) fun a hk=>se (hs.pick [(1,1),(2,2),(3,3)] rfl) hk (hK_r77_14 _ _ ?_)
   refine tss hs hk rfl rfl fun _ hK_r77_15 w hs=>sv (vI iS (Int.fdiv (u55.getD (w64 (u59-15)).toNat 0) (2 ^ 3))) hk rfl rfl rfl fun a hk=>se (hs.pick [(1,1),(2,2),(3,3)] rfl) hk (hK_r77_15 _ _ ?_)
   refine tss hs hk rfl rfl fun _ hK_r77_16 w hs=>sv (vI iS (bix6 (bix6 y82 y88) (Int.fdiv (u55.getD (w64 (u59-15)).toNat 0) (2 ^ 3)))) hk rfl rfl rfl fun a hk=>se (hs.pick [(1,1),(2,2),(3,3)] rfl) hk (hK_r77_16 _ _ ?_)
   refine tlst hk rfl rfl fun K_r77_17 hK_r77_17 w hF=>?_
   have hs:=hs.f hF
   refine mv hk rfl fun a hk=>se trivial hk (hK_r77_17 _ _ fun w hF=>?_)
   have hs:=hs.f hF
   refine hK76 _ _ ?_
   have hs:=hs.pick [(1,1),(2,2),(3,3)] rfl
   refine sq fun _ hK94=>wp_region_tree (.q 0 (.q 1 (.q 2 (.q 3 (.q 4 (.q 5 (.q 6 (.q 7 (.q 8 (.q 9 (.q 10 (.alt 11 (.alt 12 (.alt 13 (.alt 14 (.alt 15 (.alt 16 (.last 17) .stop) .stop) .stop) .stop) .stop) .stop)))))))))))) mo (by kernel_rfl) (hs.pick [(1,1),(2,2),(3,3)] rfl) fun _=>?_
   have hs:=hs.drew
   refine tqm hk rfl fun a hk=>tqv (vI iS (w64 (u59-2))) hk rfl rfl (fun _=>rfl) fun a hk=>?_
   obtain ⟨c96,H⟩:=ite_no H
   obtain ⟨b97,q98,hAc96⟩:=(o57.view).some_ (w64 (u59-2)) c96.1 (by rw [lh58];exact c96.2)
   refine tqst _ hk rfl rfl rfl rfl (fun w hs=>sia rfl hk rfl rfl rfl rfl un117 sz3 c96.1 c96.2 hAc96 fun a hk=>qe hk) fun a hk=>?_
   obtain ⟨_,rfl,e99⟩:=(o57.view).at_ 0 (w64 (u59-2)) c96.1 (by rw [lh58];exact c96.2)
   refine tqst _ hk rfl rfl rfl rfl (fun w hs=>sl (v:=(vI iS (u55.getD (w64 (u59-2)).toNat 0))) rfl hk rfl rfl rfl ag3 ((e99 0 _ rfl).cell (hs.hasG (k:=3) rfl)) fun a hk=>qe hk) fun a hk=>?_
   obtain ⟨y100,h101,H⟩:=bind_some H
   refine tqst (vI iS y100) hk rfl rfl rfl rfl (fun w hs=>sc rfl en94 hk rfl rfl rfl (spec_l01Right_t _ (u55.getD (w64 (u59-2)).toNat 0) 17 _ h101) fun _ w hR a hk=>qc hR hk) fun a hk=>tqm hk rfl fun a hk=>tqv (vI iS (w64 (u59-2))) hk rfl rfl (fun _=>rfl) fun a hk=>?_
   obtain ⟨c102,H⟩:=ite_no H
   obtain ⟨b103,q104,hAc102⟩:=(o57.view).some_ (w64 (u59-2)) c102.1 (by rw [lh58];exact c102.2)
   refine tqst _ hk rfl rfl rfl rfl (fun w hs=>sia rfl hk rfl rfl rfl rfl un117 sz3 c102.1 c102.2 hAc102 fun a hk=>qe hk) fun a hk=>?_
   obtain ⟨_,rfl,e105⟩:=(o57.view).at_ 0 (w64 (u59-2)) c102.1 (by rw [lh58];exact c102.2)
   refine tqst _ hk rfl rfl rfl rfl (fun w hs=>sl (v:=(vI iS (u55.getD (w64 (u59-2)).toNat 0))) rfl hk rfl rfl rfl ag3 ((e105 0 _ rfl).cell (hs.hasG (k:=3) rfl)) fun a hk=>qe hk) fun a hk=>?_
   obtain ⟨y106,h107,H⟩:=bind_some H
   refine tqst (vI iS y106) hk rfl rfl rfl rfl (fun w hs=>sc rfl en94 hk rfl rfl rfl (spec_l01Right_t _ (u55.getD (w64 (u59-2)).toNat 0) 19 _ h107) fun _ w hR a hk=>qc hR hk) fun a hk=>tqv (vI iS (bix6 y100 y106)) hk rfl rfl (fun _=>rfl) fun a hk=>tss hs hk rfl rfl fun _ hK_r95_11 w hs=>mv hk rfl fun a hk=>se (hs.pick [(1,1),(2,2),(3,3)] rfl) hk (hK_r95_11 _ _ ?_)
   refine tss hs hk rfl rfl fun _ hK_r95_12 w hs=>sv (vI iS (w64 (u59-2))) hk rfl rfl rfl fun a hk=>se (hs.pick [(1,1),(2,2),(3,3)] rfl) hk (hK_r95_12 _ _ ?_)
   refine tss hs hk rfl rfl fun _ hK_r95_13 w hs=>?_
   obtain ⟨c108,H⟩:=ite_no H
   obtain ⟨b109,q110,hAc108⟩:=(o57.view).some_ (w64 (u59-2)) c108.1 (by rw [lh58];exact c108.2)
   refine sia rfl hk rfl rfl rfl rfl un117 sz3 c108.1 c108.2 hAc108 fun a hk=>se (hs.pick [(1,1),(2,2),(3,3)] rfl) hk (hK_r95_13 _ _ ?_)
   refine tss hs hk rfl rfl fun _ hK_r95_14 w hs=>?_
   obtain ⟨_,rfl,e111⟩:=(o57.view).at_ 0 (w64 (u59-2)) c108.1 (by rw [lh58];exact c108.2)
   refine sl (v:=(vI iS (u55.getD (w64 (u59-2)).toNat 0))) rfl hk rfl rfl rfl ag3 ((e111 0 _ rfl).cell (hs.hasG (k:=3) rfl)) fun a hk=>se (hs.pick [(1,1),(2,2),(3,3)] rfl) hk (hK_r95_14 _ _ ?_)
   refine tss hs hk rfl rfl fun _ hK_r95_15 w hs=>sv (vI iS (Int.fdiv (u55.getD (w64 (u59-2)).toNat 0) (2 ^ 10))) hk rfl rfl rfl fun a hk=>se (hs.pick [(1,1),(2,2),(3,3)] rfl) hk (hK_r95_15 _ _ ?_)
   refine tss hs hk rfl rfl fun _ hK_r95_16 w hs=>sv (vI iS (bix6 (bix6 y100 y106) (Int.fdiv (u55.getD (w64 (u59-2)).toNat 0) (2 ^ 10)))) hk rfl rfl rfl fun a hk=>se (hs.pick [(1,1),(2,2),(3,3)] rfl) hk (hK_r95_16 _ _ ?_)
   refine tlst hk rfl rfl fun K_r95_17 hK_r95_17 w hF=>?_
   have hs:=hs.f hF
   refine mv hk rfl fun a hk=>se trivial hk (hK_r95_17 _ _ fun w hF=>?_)
   have hs:=hs.f hF
   refine hK94 _ _ <| wp_region_tree (.q 0 (.q 1 (.q 2 (.q 3 (.q 4 (.q 5 (.q 6 (.q 7 (.q 8 (.q 9 (.q 10 (.q 11 (.alt 12 (.alt 13 (.alt 14 (.alt 15 (.last 16) .stop) .stop) .stop) .stop))))))))))))) mo (by kernel_rfl) (hs.pick [(1,1),(2,2),(3,3)] rfl) fun _=>?_
   have hs:=hs.drew
   refine tqm hk rfl fun a hk=>tqm hk rfl fun a hk=>tqv (vI iS (w64 (u59-16))) hk rfl rfl (fun _=>rfl) fun a hk=>?_
   obtain ⟨c113,H⟩:=ite_no H
   obtain ⟨b114,q115,hAc113⟩:=(o57.view).some_ (w64 (u59-16)) c113.1 (by rw [lh58];exact c113.2)
   refine tqst _ hk rfl rfl rfl rfl (fun w hs=>sia rfl hk rfl rfl rfl rfl un117 sz3 c113.1 c113.2 hAc113 fun a hk=>qe hk) fun a hk=>?_
   obtain ⟨_,rfl,e116⟩:=(o57.view).at_ 0 (w64 (u59-16)) c113.1 (by rw [lh58];exact c113.2)
   refine tqst _ hk rfl rfl rfl rfl (fun w hs=>sl (v:=(vI iS (u55.getD (w64 (u59-16)).toNat 0))) rfl hk rfl rfl rfl ag3 ((e116 0 _ rfl).cell (hs.hasG (k:=3) rfl)) fun a hk=>qe hk) fun a hk=>tqm hk rfl fun a hk=>tqv (vI iS (w64 ((u55.getD (w64 (u59-16)).toNat 0)+(bix6 (bix6 y82 y88) (Int.fdiv (u55.getD (w64 (u59-15)).toNat 0) (2 ^ 3)))))) hk rfl rfl (fun _=>rfl) fun a hk=>tqm hk rfl fun a hk=>tqv (vI iS (w64 (u59-7))) hk rfl rfl (fun _=>rfl) fun a hk=>?_
   obtain ⟨c117,H⟩:=ite_no H
   obtain ⟨b118,q119,hAc117⟩:=(o57.view).some_ (w64 (u59-7)) c117.1 (by rw [lh58];exact c117.2)
   refine tqst _ hk rfl rfl rfl rfl (fun w hs=>sia rfl hk rfl rfl rfl rfl un117 sz3 c117.1 c117.2 hAc117 fun a hk=>qe hk) fun a hk=>?_
   obtain ⟨_,rfl,e120⟩:=(o57.view).at_ 0 (w64 (u59-7)) c117.1 (by rw [lh58];exact c117.2)
   refine tqst _ hk rfl rfl rfl rfl (fun w hs=>sl (v:=(vI iS (u55.getD (w64 (u59-7)).toNat 0))) rfl hk rfl rfl rfl ag3 ((e120 0 _ rfl).cell (hs.hasG (k:=3) rfl)) fun a hk=>qe hk) fun a hk=>tqv (vI iS (w64 ((w64 ((u55.getD (w64 (u59-16)).toNat 0)+(bix6 (bix6 y82 y88) (Int.fdiv (u55.getD (w64 (u59-15)).toNat 0) (2 ^ 3)))))+(u55.getD (w64 (u59-7)).toNat 0)))) hk rfl rfl (fun _=>rfl) fun a hk=>tss hs hk rfl rfl fun _ hK_r112_12 w hs=>mv hk rfl fun a hk=>se (hs.pick [(1,1),(2,2),(3,3)] rfl) hk (hK_r112_12 _ _ ?_)
   refine tss hs hk rfl rfl fun _ hK_r112_13 w hs=>sv (vI iS (w64 ((w64 ((w64 ((u55.getD (w64 (u59-16)).toNat 0)+(bix6 (bix6 y82 y88) (Int.fdiv (u55.getD (w64 (u59-15)).toNat 0) (2 ^ 3)))))+(u55.getD (w64 (u59-7)).toNat 0)))+(bix6 (bix6 y100 y106) (Int.fdiv (u55.getD (w64 (u59-2)).toNat 0) (2 ^ 10)))))) hk rfl rfl rfl fun a hk=>se (hs.pick [(1,1),(2,2),(3,3)] rfl) hk (hK_r112_13 _ _ ?_)
   refine tss hs hk rfl rfl fun _ hK_r112_14 w hs=>sv (vI iS (bia6 (w64 ((w64 ((w64 ((u55.getD (w64 (u59-16)).toNat 0)+(bix6 (bix6 y82 y88) (Int.fdiv (u55.getD (w64 (u59-15)).toNat 0) (2 ^ 3)))))+(u55.getD (w64 (u59-7)).toNat 0)))+(bix6 (bix6 y100 y106) (Int.fdiv (u55.getD (w64 (u59-2)).toNat 0) (2 ^ 10))))) 4294967295)) hk rfl rfl rfl fun a hk=>se (hs.pick [(1,1),(2,2),(3,3)] rfl) hk (hK_r112_14 _ _ ?_)
   refine tss hs hk rfl rfl fun _ hK_r112_15 w hs=>?_
   obtain ⟨c121,H⟩:=ite_no H
   obtain ⟨b122,q123,hAc121⟩:=(o57.view).some_ u59 c121.1 (by rw [lh58];exact c121.2)
   refine sia rfl hk rfl rfl rfl rfl un117 sz3 c121.1 c121.2 hAc121 fun a hk=>se (hs.pick [(1,1),(2,2),(3,3)] rfl) hk (hK_r112_15 _ _ ?_)
   refine tlst hk rfl rfl fun K_r112_16 hK_r112_16 w hF=>?_
   have hs:=hs.f hF
   refine so (j:=0) 3 0 (bia6 (w64 ((w64 ((w64 ((u55.getD (w64 (u59-16)).toNat 0)+(bix6 (bix6 y82 y88) (Int.fdiv (u55.getD (w64 (u59-15)).toNat 0) (2 ^ 3)))))+(u55.getD (w64 (u59-7)).toNat 0)))+(bix6 (bix6 y100 y106) (Int.fdiv (u55.getD (w64 (u59-2)).toNat 0) (2 ^ 10))))) 4294967295) hs rfl o57 c121.1 (by rw [lh58];exact c121.2) rfl hk rfl rfl rfl rfl rfl sz3 (by simp [Value.cells,Value.oneCell']) (Nat.le_of_ble_eq_true rfl) (fun _ _ h=>⟨by rw [h.1];rfl,h.2⟩) fun k124 w a hk o125 hs=>?_
   have lh126:(u55.set u59.toNat (bia6 (w64 ((w64 ((w64 ((u55.getD (w64 (u59-16)).toNat 0)+(bix6 (bix6 y82 y88) (Int.fdiv (u55.getD (w64 (u59-15)).toNat 0) (2 ^ 3)))))+(u55.getD (w64 (u59-7)).toNat 0)))+(bix6 (bix6 y100 y106) (Int.fdiv (u55.getD (w64 (u59-2)).toNat 0) (2 ^ 10))))) 4294967295)).length=64:=by rw [List.length_set];exact lh58
   refine se trivial hk (hK_r112_16 _ _ fun w hF=>?_)
   have hs:=hs.f hF
   refine hK75 _ _ ?_
   apply wp_region_lit
   refine mv hk rfl fun a hk=>sv (vI iS (w64 (u59+1))) hk rfl rfl rfl fun a hk=>mv hk rfl fun a hk=>?_
   show wpList _ _ _ [] _ _
   refine wpList_nil ?_
   obtain rfl:=osi H
   obtain ⟨m127,hmm127,h71⟩:=h71
   show ∃ n',n'<_∧I68 n' _ _
   refine ⟨m127,hmm127,?_⟩
   rw [hI68]
   exact ⟨_,_,_,h71,(hk.al rfl),(hs.pick [(1,1),(2,2),(3,3)] rfl),o125,lh126⟩
  have hk:=hk.lit 31 c74 rfl
  refine cnd_false hk rfl rfl <| wp_exit ?_
  obtain rfl:=osi H
  show R67 _ _
  rw [hR67]
  exact ⟨_,_,h71.symm,(hk.al rfl),(hs.pick [(1,1),(2,2),(3,3)] rfl),o57,lh58⟩
 intro a w hR0
 rw [hR67] at hR0
 obtain ⟨u60,k61,rfl,hk,hs,o62,lh63⟩:=hR0
 have H:=HL66
 try dsimp only at H
 refine hK51 _ _ <| sr fun _ hK128=>?_
 obtain ⟨y129,h130,H⟩:=bind_some H
 refine sc rfl en95 hk rfl rfl rfl (spec_l01Table_t _ _ h130) ?_
 rintro _ w ⟨rfl,lh131,hG⟩ a hk
 have hs:=hs.call0 hG
 refine sala 9 ((Lay.int iS)) (m:=64) (z:=0) (zc:=[vI iS 0]) hs rfl hk rfl rfl ze117 (by exact ⟨rfl,rfl⟩) rfl rfl rfl fun b132 k133 w a hk o134 hs=>?_
 have lh135:(List.replicate 64 (0:Int)).length=64:=List.length_replicate
 refine sswa 9 y129 hs rfl o134 lh135 lh131 rfl rfl hk rfl rfl rfl rfl sz117 fun k136 w a hk o137 hs=>nx hK128 <| sr fun _ hK138=>slna (k:=1) hs rfl o4 e0_ rfl hk rfl rfl rfl ag77 sz77 fun a hk=>sala 10 ((Lay.int iS)) (m:=8) (z:=0) (zc:=[vI iS 0]) hs rfl hk rfl rfl ze77 (by exact ⟨rfl,rfl⟩) rfl rfl rfl fun b139 k140 w a hk o141 hs=>?_
 have lh142:(List.replicate 8 (0:Int)).length=8:=List.length_replicate
 refine sswa 10 x0 hs rfl o141 lh142 e0_ rfl rfl hk rfl rfl rfl rfl sz77 fun k143 w a hk o144 hs=>nx hK138 ?_
 have hs:=hs.pick [(1,1),(2,2),(3,3),(9,9),(10,10)] rfl
 refine sq fun _ hK145=>sr fun _ hK146=>mv hk rfl fun a hk=>nx hK146 ?_
 obtain ⟨o158,h159,HL160⟩:=bind_some H
 clear H
 obtain ⟨R161,hR161⟩:=nm fun a w=>∃ (u154:List Int) (k155:Chunk),o158 = .out u154∧Kn [(2,(vP (some ⟨b2,0,none⟩))),(4,(vP (some ⟨b5,0,none⟩))),(11,(vP (some ⟨b139,0,none⟩)))] 194 a∧Sat [] w0 w [] [(1,k3),(2,k6),(10,k155)]∧Own (Lay.int iS) 77 (some ⟨b139,0,none⟩) 8 u154 k155∧u154.length=8
 refine wp_cutq R161 ?_ ?_
 ·refine wp_block ?_
  obtain ⟨fu163,h159⟩:=loopO_some h159
  obtain ⟨I162,hI162⟩:=nm fun fu a w=>∃ (u149:List Int) (u153:Int) (k150:Chunk),loopN (fun s=>spec_l01Block.s2 u60 y129 s.1 s.2) fu (u149,u153)=some o158∧Kn [(2,(vP (some ⟨b2,0,none⟩))),(4,(vP (some ⟨b5,0,none⟩))),(5,(vP (some ⟨b11,0,none⟩))),(10,(vP (some ⟨b132,0,none⟩))),(11,(vP (some ⟨b139,0,none⟩))),(12,(vI iS u153))] 194 a∧Sat [] w0 w [] [(1,k3),(2,k6),(3,k61),(9,k136),(10,k150)]∧Own (Lay.int iS) 77 (some ⟨b139,0,none⟩) 8 u149 k150∧u149.length=8
  refine wp_loop_ghost I162 fu163 ?_ ?_
  ·rw [hI162]
   exact ⟨_,_,_,h159,(hk.al rfl),(hs.pick [(1,1),(2,2),(3,3),(9,9),(10,10)] rfl),o144,e0_⟩
  clear h159 hk hs
  intro fu163 a w hI0
  rw [hI162] at hI0
  obtain ⟨u149,u153,k150,hi,hk,hs,o151,lh152⟩:=hI0
  obtain ⟨x164,H,h165⟩:=loop_round hi
  try dsimp only at H
  unfold spec_l01Block.s2 at H
  refine sq fun _ hK166=>sr fun _ hK167=>mv hk rfl fun a hk=>sv (.bool (decide (u153<64))) hk rfl rfl rfl fun a hk=>nx hK167 ?_
  rcases cond_some H with ⟨c168,H⟩ | ⟨c168,H⟩
  ·have hk:=hk.lit 87 c168 rfl
   refine cnd_true hk rfl rfl <| wp_skip <| hK166 _ _ <| sq fun _ hK169=>wp_block ?_
   refine sq fun _ hK170=>wp_region_tree (.q 0 (.q 1 (.q 2 (.q 3 (.q 4 (.q 5 (.q 6 (.alt 7 (.alt 8 (.alt 9 (.alt 10 (.last 11) .stop) .stop) .stop) .stop)))))))) mo (by kernel_rfl) (hs.pick [(1,1),(2,2),(3,3),(9,9),(10,10)] rfl) fun _=>?_
   have hs:=hs.drew
   obtain ⟨c172,H⟩:=ite_no H
   obtain ⟨b173,q174,hAc172⟩:=(o151.view).some_ (4:Int) c172.1 (by rw [lh152];exact c172.2)
   refine tqst _ hk rfl rfl rfl rfl (fun w hs=>sia rfl hk rfl rfl rfl rfl un77 sz3 c172.1 c172.2 hAc172 fun a hk=>qe hk) fun a hk=>?_
   obtain ⟨_,rfl,e175⟩:=(o151.view).at_ 0 (4:Int) c172.1 (by rw [lh152];exact c172.2)
   refine tqst _ hk rfl rfl rfl rfl (fun w hs=>sl (v:=(vI iS (u149.getD (4:Int).toNat 0))) rfl hk rfl rfl rfl ag3 ((e175 0 _ rfl).cell (hs.hasG (k:=10) rfl)) fun a hk=>qe hk) fun a hk=>?_
   obtain ⟨y176,h177,H⟩:=bind_some H
   refine tqst (vI iS y176) hk rfl rfl rfl rfl (fun w hs=>sc rfl en94 hk rfl rfl rfl (spec_l01Right_t _ (u149.getD (4:Int).toNat 0) 6 _ h177) fun _ w hR a hk=>qc hR hk) fun a hk=>?_
   obtain ⟨c178,H⟩:=ite_no H
   obtain ⟨b179,q180,hAc178⟩:=(o151.view).some_ (4:Int) c178.1 (by rw [lh152];exact c178.2)
   refine tqst _ hk rfl rfl rfl rfl (fun w hs=>sia rfl hk rfl rfl rfl rfl un77 sz3 c178.1 c178.2 hAc178 fun a hk=>qe hk) fun a hk=>?_
   obtain ⟨_,rfl,e181⟩:=(o151.view).at_ 0 (4:Int) c178.1 (by rw [lh152];exact c178.2)
   refine tqst _ hk rfl rfl rfl rfl (fun w hs=>sl (v:=(vI iS (u149.getD (4:Int).toNat 0))) rfl hk rfl rfl rfl ag3 ((e181 0 _ rfl).cell (hs.hasG (k:=10) rfl)) fun a hk=>qe hk) fun a hk=>?_
   obtain ⟨y182,h183,H⟩:=bind_some H
   refine tqst (vI iS y182) hk rfl rfl rfl rfl (fun w hs=>sc rfl en94 hk rfl rfl rfl (spec_l01Right_t _ (u149.getD (4:Int).toNat 0) 11 _ h183) fun _ w hR a hk=>qc hR hk) fun a hk=>tqv (vI iS (bix6 y176 y182)) hk rfl rfl (fun _=>rfl) fun a hk=>tss hs hk rfl rfl fun _ hK_r171_7 w hs=>?_
   obtain ⟨c184,H⟩:=ite_no H
   obtain ⟨b185,q186,hAc184⟩:=(o151.view).some_ (4:Int) c184.1 (by rw [lh152];exact c184.2)
   refine sia rfl hk rfl rfl rfl rfl un77 sz3 c184.1 c184.2 hAc184 fun a hk=>se (hs.pick [(1,1),(2,2),(3,3),(9,9),(10,10)] rfl) hk (hK_r171_7 _ _ ?_)
   refine tss hs hk rfl rfl fun _ hK_r171_8 w hs=>?_
   obtain ⟨_,rfl,e187⟩:=(o151.view).at_ 0 (4:Int) c184.1 (by rw [lh152];exact c184.2)
   refine sl (v:=(vI iS (u149.getD (4:Int).toNat 0))) rfl hk rfl rfl rfl ag3 ((e187 0 _ rfl).cell (hs.hasG (k:=10) rfl)) fun a hk=>se (hs.pick [(1,1),(2,2),(3,3),(9,9),(10,10)] rfl) hk (hK_r171_8 _ _ ?_)
   refine tss hs hk rfl rfl fun _ hK_r171_9 w hs=>?_
   obtain ⟨y188,h189,H⟩:=bind_some H
   refine sc rfl en94 hk rfl rfl rfl (spec_l01Right_t _ (u149.getD (4:Int).toNat 0) 25 _ h189) ?_
   rintro _ w ⟨rfl,hG⟩ a hk
   have hs:=hs.call0 hG
   refine se (hs.pick [(1,1),(2,2),(3,3),(9,9),(10,10)] rfl) hk (hK_r171_9 _ _ ?_)
   refine tss hs hk rfl rfl fun _ hK_r171_10 w hs=>sv (vI iS (bix6 (bix6 y176 y182) y188)) hk rfl rfl rfl fun a hk=>se (hs.pick [(1,1),(2,2),(3,3),(9,9),(10,10)] rfl) hk (hK_r171_10 _ _ ?_)
   refine tlst hk rfl rfl fun K_r171_11 hK_r171_11 w hF=>?_
   have hs:=hs.f hF
   refine mv hk rfl fun a hk=>se trivial hk (hK_r171_11 _ _ fun w hF=>?_)
   have hs:=hs.f hF
   refine hK170 _ _ <| sr fun _ hK190=>?_
   obtain ⟨c191,H⟩:=ite_no H
   obtain ⟨b192,q193,hAc191⟩:=(o151.view).some_ (4:Int) c191.1 (by rw [lh152];exact c191.2)
   refine sia rfl hk rfl rfl rfl rfl un77 sz3 c191.1 c191.2 hAc191 fun a hk=>?_
   obtain ⟨_,rfl,e194⟩:=(o151.view).at_ 0 (4:Int) c191.1 (by rw [lh152];exact c191.2)
   refine sl (v:=(vI iS (u149.getD (4:Int).toNat 0))) rfl hk rfl rfl rfl ag3 ((e194 0 _ rfl).cell (hs.hasG (k:=10) rfl)) fun a hk=>?_
   obtain ⟨c195,H⟩:=ite_no H
   obtain ⟨b196,q197,hAc195⟩:=(o151.view).some_ (5:Int) c195.1 (by rw [lh152];exact c195.2)
   refine sia rfl hk rfl rfl rfl rfl un77 sz3 c195.1 c195.2 hAc195 fun a hk=>?_
   obtain ⟨_,rfl,e198⟩:=(o151.view).at_ 0 (5:Int) c195.1 (by rw [lh152];exact c195.2)
   refine sl (v:=(vI iS (u149.getD (5:Int).toNat 0))) rfl hk rfl rfl rfl ag3 ((e198 0 _ rfl).cell (hs.hasG (k:=10) rfl)) fun a hk=>sv (vI iS (bia6 (u149.getD (4:Int).toNat 0) (u149.getD (5:Int).toNat 0))) hk rfl rfl rfl fun a hk=>?_
   obtain ⟨c199,H⟩:=ite_no H
   obtain ⟨b200,q201,hAc199⟩:=(o151.view).some_ (4:Int) c199.1 (by rw [lh152];exact c199.2)
   refine sia rfl hk rfl rfl rfl rfl un77 sz3 c199.1 c199.2 hAc199 fun a hk=>?_
   obtain ⟨_,rfl,e202⟩:=(o151.view).at_ 0 (4:Int) c199.1 (by rw [lh152];exact c199.2)
   refine sl (v:=(vI iS (u149.getD (4:Int).toNat 0))) rfl hk rfl rfl rfl ag3 ((e202 0 _ rfl).cell (hs.hasG (k:=10) rfl)) fun a hk=>sv (vI iS (bix6 4294967295 (u149.getD (4:Int).toNat 0))) hk rfl rfl rfl fun a hk=>?_
   obtain ⟨c203,H⟩:=ite_no H
   obtain ⟨b204,q205,hAc203⟩:=(o151.view).some_ (6:Int) c203.1 (by rw [lh152];exact c203.2)
   refine sia rfl hk rfl rfl rfl rfl un77 sz3 c203.1 c203.2 hAc203 fun a hk=>?_
   obtain ⟨_,rfl,e206⟩:=(o151.view).at_ 0 (6:Int) c203.1 (by rw [lh152];exact c203.2)
   refine sl (v:=(vI iS (u149.getD (6:Int).toNat 0))) rfl hk rfl rfl rfl ag3 ((e206 0 _ rfl).cell (hs.hasG (k:=10) rfl)) fun a hk=>sv (vI iS (bia6 (bix6 4294967295 (u149.getD (4:Int).toNat 0)) (u149.getD (6:Int).toNat 0))) hk rfl rfl rfl fun a hk=>sv (vI iS (bix6 (bia6 (u149.getD (4:Int).toNat 0) (u149.getD (5:Int).toNat 0)) (bia6 (bix6 4294967295 (u149.getD (4:Int).toNat 0)) (u149.getD (6:Int).toNat 0)))) hk rfl rfl rfl fun a hk=>mv hk rfl fun a hk=>nx hK190 <| sq fun _ hK207=>wp_region_tree (.q 0 (.q 1 (.q 2 (.q 3 (.q 4 (.q 5 (.q 6 (.q 7 (.q 8 (.q 9 (.alt 10 (.alt 11 (.alt 12 (.alt 13 (.last 14) .stop) .stop) .stop) .stop))))))))))) mo (by kernel_rfl) (hs.pick [(1,1),(2,2),(3,3),(9,9),(10,10)] rfl) fun _=>?_
   have hs:=hs.drew
   obtain ⟨c209,H⟩:=ite_no H
   obtain ⟨b210,q211,hAc209⟩:=(o151.view).some_ (7:Int) c209.1 (by rw [lh152];exact c209.2)
   refine tqst _ hk rfl rfl rfl rfl (fun w hs=>sia rfl hk rfl rfl rfl rfl un77 sz3 c209.1 c209.2 hAc209 fun a hk=>qe hk) fun a hk=>?_
   obtain ⟨_,rfl,e212⟩:=(o151.view).at_ 0 (7:Int) c209.1 (by rw [lh152];exact c209.2)
   refine tqst _ hk rfl rfl rfl rfl (fun w hs=>sl (v:=(vI iS (u149.getD (7:Int).toNat 0))) rfl hk rfl rfl rfl ag3 ((e212 0 _ rfl).cell (hs.hasG (k:=10) rfl)) fun a hk=>qe hk) fun a hk=>tqm hk rfl fun a hk=>tqv (vI iS (w64 ((u149.getD (7:Int).toNat 0)+(bix6 (bix6 y176 y182) y188)))) hk rfl rfl (fun _=>rfl) fun a hk=>tqm hk rfl fun a hk=>tqv (vI iS (w64 ((w64 ((u149.getD (7:Int).toNat 0)+(bix6 (bix6 y176 y182) y188)))+(bix6 (bia6 (u149.getD (4:Int).toNat 0) (u149.getD (5:Int).toNat 0)) (bia6 (bix6 4294967295 (u149.getD (4:Int).toNat 0)) (u149.getD (6:Int).toNat 0)))))) hk rfl rfl (fun _=>rfl) fun a hk=>tqm hk rfl fun a hk=>?_
   obtain ⟨c213,H⟩:=ite_no H
   obtain ⟨b214,q215,hAc213⟩:=(o137.view).some_ u153 c213.1 (by rw [lh131];exact c213.2)
   refine tqst _ hk rfl rfl rfl rfl (fun w hs=>sia rfl hk rfl rfl rfl rfl un117 sz3 c213.1 c213.2 hAc213 fun a hk=>qe hk) fun a hk=>?_
   obtain ⟨_,rfl,e216⟩:=(o137.view).at_ 0 u153 c213.1 (by rw [lh131];exact c213.2)
   refine tqst _ hk rfl rfl rfl rfl (fun w hs=>sl (v:=(vI iS (y129.getD u153.toNat 0))) rfl hk rfl rfl rfl ag3 ((e216 0 _ rfl).cell (hs.hasG (k:=9) rfl)) fun a hk=>qe hk) fun a hk=>tqv (vI iS (w64 ((w64 ((w64 ((u149.getD (7:Int).toNat 0)+(bix6 (bix6 y176 y182) y188)))+(bix6 (bia6 (u149.getD (4:Int).toNat 0) (u149.getD (5:Int).toNat 0)) (bia6 (bix6 4294967295 (u149.getD (4:Int).toNat 0)) (u149.getD (6:Int).toNat 0)))))+(y129.getD u153.toNat 0)))) hk rfl rfl (fun _=>rfl) fun a hk=>tss hs hk rfl rfl fun _ hK_r208_10 w hs=>mv hk rfl fun a hk=>se (hs.pick [(1,1),(2,2),(3,3),(9,9),(10,10)] rfl) hk (hK_r208_10 _ _ ?_)
   refine tss hs hk rfl rfl fun _ hK_r208_11 w hs=>?_
   obtain ⟨c217,H⟩:=ite_no H
   obtain ⟨b218,q219,hAc217⟩:=(o62.view).some_ u153 c217.1 (by rw [lh63];exact c217.2)
   refine sia rfl hk rfl rfl rfl rfl un117 sz3 c217.1 c217.2 hAc217 fun a hk=>se (hs.pick [(1,1),(2,2),(3,3),(9,9),(10,10)] rfl) hk (hK_r208_11 _ _ ?_)
   refine tss hs hk rfl rfl fun _ hK_r208_12 w hs=>?_
   obtain ⟨_,rfl,e220⟩:=(o62.view).at_ 0 u153 c217.1 (by rw [lh63];exact c217.2)
   refine sl (v:=(vI iS (u60.getD u153.toNat 0))) rfl hk rfl rfl rfl ag3 ((e220 0 _ rfl).cell (hs.hasG (k:=3) rfl)) fun a hk=>se (hs.pick [(1,1),(2,2),(3,3),(9,9),(10,10)] rfl) hk (hK_r208_12 _ _ ?_)
   refine tss hs hk rfl rfl fun _ hK_r208_13 w hs=>sv (vI iS (w64 ((w64 ((w64 ((w64 ((u149.getD (7:Int).toNat 0)+(bix6 (bix6 y176 y182) y188)))+(bix6 (bia6 (u149.getD (4:Int).toNat 0) (u149.getD (5:Int).toNat 0)) (bia6 (bix6 4294967295 (u149.getD (4:Int).toNat 0)) (u149.getD (6:Int).toNat 0)))))+(y129.getD u153.toNat 0)))+(u60.getD u153.toNat 0)))) hk rfl rfl rfl fun a hk=>se (hs.pick [(1,1),(2,2),(3,3),(9,9),(10,10)] rfl) hk (hK_r208_13 _ _ ?_)
   refine tlst hk rfl rfl fun K_r208_14 hK_r208_14 w hF=>?_
   have hs:=hs.f hF
   refine mv hk rfl fun a hk=>se trivial hk (hK_r208_14 _ _ fun w hF=>?_)
   have hs:=hs.f hF
   refine hK207 _ _ <| sq fun _ hK221=>wp_region_tree (.q 0 (.q 1 (.q 2 (.q 3 (.q 4 (.q 5 (.q 6 (.alt 7 (.alt 8 (.alt 9 (.alt 10 (.last 11) .stop) .stop) .stop) .stop)))))))) mo (by kernel_rfl) (hs.pick [(1,1),(2,2),(3,3),(9,9),(10,10)] rfl) fun _=>?_
   have hs:=hs.drew
   obtain ⟨c223,H⟩:=ite_no H
   obtain ⟨b224,q225,hAc223⟩:=(o151.view).some_ (0:Int) c223.1 (by rw [lh152];exact c223.2)
   refine tqst _ hk rfl rfl rfl rfl (fun w hs=>sia rfl hk rfl rfl rfl rfl un77 sz3 c223.1 c223.2 hAc223 fun a hk=>qe hk) fun a hk=>?_
   obtain ⟨_,rfl,e226⟩:=(o151.view).at_ 0 (0:Int) c223.1 (by rw [lh152];exact c223.2)
   refine tqst _ hk rfl rfl rfl rfl (fun w hs=>sl (v:=(vI iS (u149.getD (0:Int).toNat 0))) rfl hk rfl rfl rfl ag3 ((e226 0 _ rfl).cell (hs.hasG (k:=10) rfl)) fun a hk=>qe hk) fun a hk=>?_
   obtain ⟨y227,h228,H⟩:=bind_some H
   refine tqst (vI iS y227) hk rfl rfl rfl rfl (fun w hs=>sc rfl en94 hk rfl rfl rfl (spec_l01Right_t _ (u149.getD (0:Int).toNat 0) 2 _ h228) fun _ w hR a hk=>qc hR hk) fun a hk=>?_
   obtain ⟨c229,H⟩:=ite_no H
   obtain ⟨b230,q231,hAc229⟩:=(o151.view).some_ (0:Int) c229.1 (by rw [lh152];exact c229.2)
   refine tqst _ hk rfl rfl rfl rfl (fun w hs=>sia rfl hk rfl rfl rfl rfl un77 sz3 c229.1 c229.2 hAc229 fun a hk=>qe hk) fun a hk=>?_
   obtain ⟨_,rfl,e232⟩:=(o151.view).at_ 0 (0:Int) c229.1 (by rw [lh152];exact c229.2)
   refine tqst _ hk rfl rfl rfl rfl (fun w hs=>sl (v:=(vI iS (u149.getD (0:Int).toNat 0))) rfl hk rfl rfl rfl ag3 ((e232 0 _ rfl).cell (hs.hasG (k:=10) rfl)) fun a hk=>qe hk) fun a hk=>?_
   obtain ⟨y233,h234,H⟩:=bind_some H
   refine tqst (vI iS y233) hk rfl rfl rfl rfl (fun w hs=>sc rfl en94 hk rfl rfl rfl (spec_l01Right_t _ (u149.getD (0:Int).toNat 0) 13 _ h234) fun _ w hR a hk=>qc hR hk) fun a hk=>tqv (vI iS (bix6 y227 y233)) hk rfl rfl (fun _=>rfl) fun a hk=>tss hs hk rfl rfl fun _ hK_r222_7 w hs=>?_
   obtain ⟨c235,H⟩:=ite_no H
   obtain ⟨b236,q237,hAc235⟩:=(o151.view).some_ (0:Int) c235.1 (by rw [lh152];exact c235.2)
   refine sia rfl hk rfl rfl rfl rfl un77 sz3 c235.1 c235.2 hAc235 fun a hk=>se (hs.pick [(1,1),(2,2),(3,3),(9,9),(10,10)] rfl) hk (hK_r222_7 _ _ ?_)
   refine tss hs hk rfl rfl fun _ hK_r222_8 w hs=>?_
   obtain ⟨_,rfl,e238⟩:=(o151.view).at_ 0 (0:Int) c235.1 (by rw [lh152];exact c235.2)
   refine sl (v:=(vI iS (u149.getD (0:Int).toNat 0))) rfl hk rfl rfl rfl ag3 ((e238 0 _ rfl).cell (hs.hasG (k:=10) rfl)) fun a hk=>se (hs.pick [(1,1),(2,2),(3,3),(9,9),(10,10)] rfl) hk (hK_r222_8 _ _ ?_)
   refine tss hs hk rfl rfl fun _ hK_r222_9 w hs=>?_
   obtain ⟨y239,h240,H⟩:=bind_some H
   refine sc rfl en94 hk rfl rfl rfl (spec_l01Right_t _ (u149.getD (0:Int).toNat 0) 22 _ h240) ?_
   rintro _ w ⟨rfl,hG⟩ a hk
   have hs:=hs.call0 hG
   refine se (hs.pick [(1,1),(2,2),(3,3),(9,9),(10,10)] rfl) hk (hK_r222_9 _ _ ?_)
   refine tss hs hk rfl rfl fun _ hK_r222_10 w hs=>sv (vI iS (bix6 (bix6 y227 y233) y239)) hk rfl rfl rfl fun a hk=>se (hs.pick [(1,1),(2,2),(3,3),(9,9),(10,10)] rfl) hk (hK_r222_10 _ _ ?_)
   refine tlst hk rfl rfl fun K_r222_11 hK_r222_11 w hF=>?_
   have hs:=hs.f hF
   refine mv hk rfl fun a hk=>se trivial hk (hK_r222_11 _ _ fun w hF=>?_)
   have hs:=hs.f hF
   refine hK221 _ _ <| sr fun _ hK241=>?_
   obtain ⟨c242,H⟩:=ite_no H
   obtain ⟨b243,q244,hAc242⟩:=(o151.view).some_ (0:Int) c242.1 (by rw [lh152];exact c242.2)
   refine sia rfl hk rfl rfl rfl rfl un77 sz3 c242.1 c242.2 hAc242 fun a hk=>?_
   obtain ⟨_,rfl,e245⟩:=(o151.view).at_ 0 (0:Int) c242.1 (by rw [lh152];exact c242.2)
   refine sl (v:=(vI iS (u149.getD (0:Int).toNat 0))) rfl hk rfl rfl rfl ag3 ((e245 0 _ rfl).cell (hs.hasG (k:=10) rfl)) fun a hk=>?_
   obtain ⟨c246,H⟩:=ite_no H
   obtain ⟨b247,q248,hAc246⟩:=(o151.view).some_ (1:Int) c246.1 (by rw [lh152];exact c246.2)
   refine sia rfl hk rfl rfl rfl rfl un77 sz3 c246.1 c246.2 hAc246 fun a hk=>?_
   obtain ⟨_,rfl,e249⟩:=(o151.view).at_ 0 (1:Int) c246.1 (by rw [lh152];exact c246.2)
   refine sl (v:=(vI iS (u149.getD (1:Int).toNat 0))) rfl hk rfl rfl rfl ag3 ((e249 0 _ rfl).cell (hs.hasG (k:=10) rfl)) fun a hk=>sv (vI iS (bia6 (u149.getD (0:Int).toNat 0) (u149.getD (1:Int).toNat 0))) hk rfl rfl rfl fun a hk=>?_
   obtain ⟨c250,H⟩:=ite_no H
   obtain ⟨b251,q252,hAc250⟩:=(o151.view).some_ (0:Int) c250.1 (by rw [lh152];exact c250.2)
   refine sia rfl hk rfl rfl rfl rfl un77 sz3 c250.1 c250.2 hAc250 fun a hk=>?_
   obtain ⟨_,rfl,e253⟩:=(o151.view).at_ 0 (0:Int) c250.1 (by rw [lh152];exact c250.2)
   refine sl (v:=(vI iS (u149.getD (0:Int).toNat 0))) rfl hk rfl rfl rfl ag3 ((e253 0 _ rfl).cell (hs.hasG (k:=10) rfl)) fun a hk=>?_
   obtain ⟨c254,H⟩:=ite_no H
   obtain ⟨b255,q256,hAc254⟩:=(o151.view).some_ (2:Int) c254.1 (by rw [lh152];exact c254.2)
   refine sia rfl hk rfl rfl rfl rfl un77 sz3 c254.1 c254.2 hAc254 fun a hk=>?_
   obtain ⟨_,rfl,e257⟩:=(o151.view).at_ 0 (2:Int) c254.1 (by rw [lh152];exact c254.2)
   refine sl (v:=(vI iS (u149.getD (2:Int).toNat 0))) rfl hk rfl rfl rfl ag3 ((e257 0 _ rfl).cell (hs.hasG (k:=10) rfl)) fun a hk=>sv (vI iS (bia6 (u149.getD (0:Int).toNat 0) (u149.getD (2:Int).toNat 0))) hk rfl rfl rfl fun a hk=>sv (vI iS (bix6 (bia6 (u149.getD (0:Int).toNat 0) (u149.getD (1:Int).toNat 0)) (bia6 (u149.getD (0:Int).toNat 0) (u149.getD (2:Int).toNat 0)))) hk rfl rfl rfl fun a hk=>?_
   obtain ⟨c258,H⟩:=ite_no H
   obtain ⟨b259,q260,hAc258⟩:=(o151.view).some_ (1:Int) c258.1 (by rw [lh152];exact c258.2)
   refine sia rfl hk rfl rfl rfl rfl un77 sz3 c258.1 c258.2 hAc258 fun a hk=>?_
   obtain ⟨_,rfl,e261⟩:=(o151.view).at_ 0 (1:Int) c258.1 (by rw [lh152];exact c258.2)
   refine sl (v:=(vI iS (u149.getD (1:Int).toNat 0))) rfl hk rfl rfl rfl ag3 ((e261 0 _ rfl).cell (hs.hasG (k:=10) rfl)) fun a hk=>?_
   obtain ⟨c262,H⟩:=ite_no H
   obtain ⟨b263,q264,hAc262⟩:=(o151.view).some_ (2:Int) c262.1 (by rw [lh152];exact c262.2)
   refine sia rfl hk rfl rfl rfl rfl un77 sz3 c262.1 c262.2 hAc262 fun a hk=>?_
   obtain ⟨_,rfl,e265⟩:=(o151.view).at_ 0 (2:Int) c262.1 (by rw [lh152];exact c262.2)
   refine sl (v:=(vI iS (u149.getD (2:Int).toNat 0))) rfl hk rfl rfl rfl ag3 ((e265 0 _ rfl).cell (hs.hasG (k:=10) rfl)) fun a hk=>sv (vI iS (bia6 (u149.getD (1:Int).toNat 0) (u149.getD (2:Int).toNat 0))) hk rfl rfl rfl fun a hk=>sv (vI iS (bix6 (bix6 (bia6 (u149.getD (0:Int).toNat 0) (u149.getD (1:Int).toNat 0)) (bia6 (u149.getD (0:Int).toNat 0) (u149.getD (2:Int).toNat 0))) (bia6 (u149.getD (1:Int).toNat 0) (u149.getD (2:Int).toNat 0)))) hk rfl rfl rfl fun a hk=>mv hk rfl fun a hk=>nx hK241 ?_
   have hs:=hs.pick [(1,1),(2,2),(3,3),(9,9),(10,10)] rfl
   apply wp_region_lit
   refine mv hk rfl fun a hk=>mv hk rfl fun a hk=>sv (vI iS (w64 ((w64 ((w64 ((w64 ((w64 ((u149.getD (7:Int).toNat 0)+(bix6 (bix6 y176 y182) y188)))+(bix6 (bia6 (u149.getD (4:Int).toNat 0) (u149.getD (5:Int).toNat 0)) (bia6 (bix6 4294967295 (u149.getD (4:Int).toNat 0)) (u149.getD (6:Int).toNat 0)))))+(y129.getD u153.toNat 0)))+(u60.getD u153.toNat 0)))+(bix6 (bix6 y227 y233) y239)))) hk rfl rfl rfl fun a hk=>mv hk rfl fun a hk=>sv (vI iS (w64 ((w64 ((w64 ((w64 ((w64 ((w64 ((u149.getD (7:Int).toNat 0)+(bix6 (bix6 y176 y182) y188)))+(bix6 (bia6 (u149.getD (4:Int).toNat 0) (u149.getD (5:Int).toNat 0)) (bia6 (bix6 4294967295 (u149.getD (4:Int).toNat 0)) (u149.getD (6:Int).toNat 0)))))+(y129.getD u153.toNat 0)))+(u60.getD u153.toNat 0)))+(bix6 (bix6 y227 y233) y239)))+(bix6 (bix6 (bia6 (u149.getD (0:Int).toNat 0) (u149.getD (1:Int).toNat 0)) (bia6 (u149.getD (0:Int).toNat 0) (u149.getD (2:Int).toNat 0))) (bia6 (u149.getD (1:Int).toNat 0) (u149.getD (2:Int).toNat 0)))))) hk rfl rfl rfl fun a hk=>sv (vI iS (bia6 (w64 ((w64 ((w64 ((w64 ((w64 ((w64 ((u149.getD (7:Int).toNat 0)+(bix6 (bix6 y176 y182) y188)))+(bix6 (bia6 (u149.getD (4:Int).toNat 0) (u149.getD (5:Int).toNat 0)) (bia6 (bix6 4294967295 (u149.getD (4:Int).toNat 0)) (u149.getD (6:Int).toNat 0)))))+(y129.getD u153.toNat 0)))+(u60.getD u153.toNat 0)))+(bix6 (bix6 y227 y233) y239)))+(bix6 (bix6 (bia6 (u149.getD (0:Int).toNat 0) (u149.getD (1:Int).toNat 0)) (bia6 (u149.getD (0:Int).toNat 0) (u149.getD (2:Int).toNat 0))) (bia6 (u149.getD (1:Int).toNat 0) (u149.getD (2:Int).toNat 0))))) 4294967295)) hk rfl rfl rfl fun a hk=>?_
   obtain ⟨c266,H⟩:=ite_no H
   obtain ⟨b267,q268,hAc266⟩:=(o151.view).some_ (0:Int) c266.1 (by rw [lh152];exact c266.2)
   refine sia rfl hk rfl rfl rfl rfl un77 sz3 c266.1 c266.2 hAc266 fun a hk=>?_
   obtain ⟨_,rfl,e269⟩:=(o151.view).at_ 0 (0:Int) c266.1 (by rw [lh152];exact c266.2)
   refine sl (v:=(vI iS (u149.getD (0:Int).toNat 0))) rfl hk rfl rfl rfl ag3 ((e269 0 _ rfl).cell (hs.hasG (k:=10) rfl)) fun a hk=>?_
   obtain ⟨c270,H⟩:=ite_no H
   obtain ⟨b271,q272,hAc270⟩:=(o151.view).some_ (1:Int) c270.1 (by rw [lh152];exact c270.2)
   refine sia rfl hk rfl rfl rfl rfl un77 sz3 c270.1 c270.2 hAc270 fun a hk=>?_
   obtain ⟨_,rfl,e273⟩:=(o151.view).at_ 0 (1:Int) c270.1 (by rw [lh152];exact c270.2)
   refine sl (v:=(vI iS (u149.getD (1:Int).toNat 0))) rfl hk rfl rfl rfl ag3 ((e273 0 _ rfl).cell (hs.hasG (k:=10) rfl)) fun a hk=>?_
   obtain ⟨c274,H⟩:=ite_no H
   obtain ⟨b275,q276,hAc274⟩:=(o151.view).some_ (2:Int) c274.1 (by rw [lh152];exact c274.2)
   refine sia rfl hk rfl rfl rfl rfl un77 sz3 c274.1 c274.2 hAc274 fun a hk=>?_
   obtain ⟨_,rfl,e277⟩:=(o151.view).at_ 0 (2:Int) c274.1 (by rw [lh152];exact c274.2)
   refine sl (v:=(vI iS (u149.getD (2:Int).toNat 0))) rfl hk rfl rfl rfl ag3 ((e277 0 _ rfl).cell (hs.hasG (k:=10) rfl)) fun a hk=>?_
   obtain ⟨c278,H⟩:=ite_no H
   obtain ⟨b279,q280,hAc278⟩:=(o151.view).some_ (3:Int) c278.1 (by rw [lh152];exact c278.2)
   refine sia rfl hk rfl rfl rfl rfl un77 sz3 c278.1 c278.2 hAc278 fun a hk=>?_
   obtain ⟨_,rfl,e281⟩:=(o151.view).at_ 0 (3:Int) c278.1 (by rw [lh152];exact c278.2)
   refine sl (v:=(vI iS (u149.getD (3:Int).toNat 0))) rfl hk rfl rfl rfl ag3 ((e281 0 _ rfl).cell (hs.hasG (k:=10) rfl)) fun a hk=>mv hk rfl fun a hk=>sv (vI iS (w64 ((u149.getD (3:Int).toNat 0)+(w64 ((w64 ((w64 ((w64 ((u149.getD (7:Int).toNat 0)+(bix6 (bix6 y176 y182) y188)))+(bix6 (bia6 (u149.getD (4:Int).toNat 0) (u149.getD (5:Int).toNat 0)) (bia6 (bix6 4294967295 (u149.getD (4:Int).toNat 0)) (u149.getD (6:Int).toNat 0)))))+(y129.getD u153.toNat 0)))+(u60.getD u153.toNat 0)))))) hk rfl rfl rfl fun a hk=>sv (vI iS (bia6 (w64 ((u149.getD (3:Int).toNat 0)+(w64 ((w64 ((w64 ((w64 ((u149.getD (7:Int).toNat 0)+(bix6 (bix6 y176 y182) y188)))+(bix6 (bia6 (u149.getD (4:Int).toNat 0) (u149.getD (5:Int).toNat 0)) (bia6 (bix6 4294967295 (u149.getD (4:Int).toNat 0)) (u149.getD (6:Int).toNat 0)))))+(y129.getD u153.toNat 0)))+(u60.getD u153.toNat 0))))) 4294967295)) hk rfl rfl rfl fun a hk=>?_
   obtain ⟨c282,H⟩:=ite_no H
   obtain ⟨b283,q284,hAc282⟩:=(o151.view).some_ (4:Int) c282.1 (by rw [lh152];exact c282.2)
   refine sia rfl hk rfl rfl rfl rfl un77 sz3 c282.1 c282.2 hAc282 fun a hk=>?_
   obtain ⟨_,rfl,e285⟩:=(o151.view).at_ 0 (4:Int) c282.1 (by rw [lh152];exact c282.2)
   refine sl (v:=(vI iS (u149.getD (4:Int).toNat 0))) rfl hk rfl rfl rfl ag3 ((e285 0 _ rfl).cell (hs.hasG (k:=10) rfl)) fun a hk=>?_
   obtain ⟨c286,H⟩:=ite_no H
   obtain ⟨b287,q288,hAc286⟩:=(o151.view).some_ (5:Int) c286.1 (by rw [lh152];exact c286.2)
   refine sia rfl hk rfl rfl rfl rfl un77 sz3 c286.1 c286.2 hAc286 fun a hk=>?_
   obtain ⟨_,rfl,e289⟩:=(o151.view).at_ 0 (5:Int) c286.1 (by rw [lh152];exact c286.2)
   refine sl (v:=(vI iS (u149.getD (5:Int).toNat 0))) rfl hk rfl rfl rfl ag3 ((e289 0 _ rfl).cell (hs.hasG (k:=10) rfl)) fun a hk=>?_
   obtain ⟨c290,H⟩:=ite_no H
   obtain ⟨b291,q292,hAc290⟩:=(o151.view).some_ (6:Int) c290.1 (by rw [lh152];exact c290.2)
   refine sia rfl hk rfl rfl rfl rfl un77 sz3 c290.1 c290.2 hAc290 fun a hk=>?_
   obtain ⟨_,rfl,e293⟩:=(o151.view).at_ 0 (6:Int) c290.1 (by rw [lh152];exact c290.2)
   refine sl (v:=(vI iS (u149.getD (6:Int).toNat 0))) rfl hk rfl rfl rfl ag3 ((e293 0 _ rfl).cell (hs.hasG (k:=10) rfl)) fun a hk=>sbd (pv:=[(0,(vI iS (bia6 (w64 ((w64 ((w64 ((w64 ((w64 ((w64 ((u149.getD (7:Int).toNat 0)+(bix6 (bix6 y176 y182) y188)))+(bix6 (bia6 (u149.getD (4:Int).toNat 0) (u149.getD (5:Int).toNat 0)) (bia6 (bix6 4294967295 (u149.getD (4:Int).toNat 0)) (u149.getD (6:Int).toNat 0)))))+(y129.getD u153.toNat 0)))+(u60.getD u153.toNat 0)))+(bix6 (bix6 y227 y233) y239)))+(bix6 (bix6 (bia6 (u149.getD (0:Int).toNat 0) (u149.getD (1:Int).toNat 0)) (bia6 (u149.getD (0:Int).toNat 0) (u149.getD (2:Int).toNat 0))) (bia6 (u149.getD (1:Int).toNat 0) (u149.getD (2:Int).toNat 0))))) 4294967295))),(1,(vI iS (u149.getD (0:Int).toNat 0))),(2,(vI iS (u149.getD (1:Int).toNat 0))),(3,(vI iS (u149.getD (2:Int).toNat 0))),(4,(vI iS (bia6 (w64 ((u149.getD (3:Int).toNat 0)+(w64 ((w64 ((w64 ((w64 ((u149.getD (7:Int).toNat 0)+(bix6 (bix6 y176 y182) y188)))+(bix6 (bia6 (u149.getD (4:Int).toNat 0) (u149.getD (5:Int).toNat 0)) (bia6 (bix6 4294967295 (u149.getD (4:Int).toNat 0)) (u149.getD (6:Int).toNat 0)))))+(y129.getD u153.toNat 0)))+(u60.getD u153.toNat 0))))) 4294967295))),(5,(vI iS (u149.getD (4:Int).toNat 0))),(6,(vI iS (u149.getD (5:Int).toNat 0))),(7,(vI iS (u149.getD (6:Int).toNat 0)))]) rfl hk rfl rfl rfl (bd77_15 (bia6 (w64 ((w64 ((w64 ((w64 ((w64 ((w64 ((u149.getD (7:Int).toNat 0)+(bix6 (bix6 y176 y182) y188)))+(bix6 (bia6 (u149.getD (4:Int).toNat 0) (u149.getD (5:Int).toNat 0)) (bia6 (bix6 4294967295 (u149.getD (4:Int).toNat 0)) (u149.getD (6:Int).toNat 0)))))+(y129.getD u153.toNat 0)))+(u60.getD u153.toNat 0)))+(bix6 (bix6 y227 y233) y239)))+(bix6 (bix6 (bia6 (u149.getD (0:Int).toNat 0) (u149.getD (1:Int).toNat 0)) (bia6 (u149.getD (0:Int).toNat 0) (u149.getD (2:Int).toNat 0))) (bia6 (u149.getD (1:Int).toNat 0) (u149.getD (2:Int).toNat 0))))) 4294967295) (u149.getD (0:Int).toNat 0) (u149.getD (1:Int).toNat 0) (u149.getD (2:Int).toNat 0) (bia6 (w64 ((u149.getD (3:Int).toNat 0)+(w64 ((w64 ((w64 ((w64 ((u149.getD (7:Int).toNat 0)+(bix6 (bix6 y176 y182) y188)))+(bix6 (bia6 (u149.getD (4:Int).toNat 0) (u149.getD (5:Int).toNat 0)) (bia6 (bix6 4294967295 (u149.getD (4:Int).toNat 0)) (u149.getD (6:Int).toNat 0)))))+(y129.getD u153.toNat 0)))+(u60.getD u153.toNat 0))))) 4294967295) (u149.getD (4:Int).toNat 0) (u149.getD (5:Int).toNat 0) (u149.getD (6:Int).toNat 0)) fun a hk=>?_
   have lh294:([(bia6 (w64 ((w64 ((w64 ((w64 ((w64 ((w64 ((u149.getD (7:Int).toNat 0)+(bix6 (bix6 y176 y182) y188)))+(bix6 (bia6 (u149.getD (4:Int).toNat 0) (u149.getD (5:Int).toNat 0)) (bia6 (bix6 4294967295 (u149.getD (4:Int).toNat 0)) (u149.getD (6:Int).toNat 0)))))+(y129.getD u153.toNat 0)))+(u60.getD u153.toNat 0)))+(bix6 (bix6 y227 y233) y239)))+(bix6 (bix6 (bia6 (u149.getD (0:Int).toNat 0) (u149.getD (1:Int).toNat 0)) (bia6 (u149.getD (0:Int).toNat 0) (u149.getD (2:Int).toNat 0))) (bia6 (u149.getD (1:Int).toNat 0) (u149.getD (2:Int).toNat 0))))) 4294967295),(u149.getD (0:Int).toNat 0),(u149.getD (1:Int).toNat 0),(u149.getD (2:Int).toNat 0),(bia6 (w64 ((u149.getD (3:Int).toNat 0)+(w64 ((w64 ((w64 ((w64 ((u149.getD (7:Int).toNat 0)+(bix6 (bix6 y176 y182) y188)))+(bix6 (bia6 (u149.getD (4:Int).toNat 0) (u149.getD (5:Int).toNat 0)) (bia6 (bix6 4294967295 (u149.getD (4:Int).toNat 0)) (u149.getD (6:Int).toNat 0)))))+(y129.getD u153.toNat 0)))+(u60.getD u153.toNat 0))))) 4294967295),(u149.getD (4:Int).toNat 0),(u149.getD (5:Int).toNat 0),(u149.getD (6:Int).toNat 0)]:List Int).length=8:=rfl
   refine sswa 10 ([(bia6 (w64 ((w64 ((w64 ((w64 ((w64 ((w64 ((u149.getD (7:Int).toNat 0)+(bix6 (bix6 y176 y182) y188)))+(bix6 (bia6 (u149.getD (4:Int).toNat 0) (u149.getD (5:Int).toNat 0)) (bia6 (bix6 4294967295 (u149.getD (4:Int).toNat 0)) (u149.getD (6:Int).toNat 0)))))+(y129.getD u153.toNat 0)))+(u60.getD u153.toNat 0)))+(bix6 (bix6 y227 y233) y239)))+(bix6 (bix6 (bia6 (u149.getD (0:Int).toNat 0) (u149.getD (1:Int).toNat 0)) (bia6 (u149.getD (0:Int).toNat 0) (u149.getD (2:Int).toNat 0))) (bia6 (u149.getD (1:Int).toNat 0) (u149.getD (2:Int).toNat 0))))) 4294967295),(u149.getD (0:Int).toNat 0),(u149.getD (1:Int).toNat 0),(u149.getD (2:Int).toNat 0),(bia6 (w64 ((u149.getD (3:Int).toNat 0)+(w64 ((w64 ((w64 ((w64 ((u149.getD (7:Int).toNat 0)+(bix6 (bix6 y176 y182) y188)))+(bix6 (bia6 (u149.getD (4:Int).toNat 0) (u149.getD (5:Int).toNat 0)) (bia6 (bix6 4294967295 (u149.getD (4:Int).toNat 0)) (u149.getD (6:Int).toNat 0)))))+(y129.getD u153.toNat 0)))+(u60.getD u153.toNat 0))))) 4294967295),(u149.getD (4:Int).toNat 0),(u149.getD (5:Int).toNat 0),(u149.getD (6:Int).toNat 0)]:List Int) hs rfl o151 lh152 lh294 rfl rfl hk rfl rfl rfl rfl sz77 fun k295 w a hk o296 hs=>nx hK169 ?_
   apply wp_region_lit
   refine mv hk rfl fun a hk=>sv (vI iS (w64 (u153+1))) hk rfl rfl rfl fun a hk=>mv hk rfl fun a hk=>?_
   show wpList _ _ _ [] _ _
   refine wpList_nil ?_
   obtain rfl:=osi H
   obtain ⟨m297,hmm297,h165⟩:=h165
   show ∃ n',n'<_∧I162 n' _ _
   refine ⟨m297,hmm297,?_⟩
   rw [hI162]
   exact ⟨_,_,_,h165,(hk.al rfl),(hs.pick [(1,1),(2,2),(3,3),(9,9),(10,10)] rfl),o296,lh294⟩
  have hk:=hk.lit 87 c168 rfl
  refine cnd_false hk rfl rfl <| wp_exit ?_
  obtain rfl:=osi H
  show R161 _ _
  rw [hR161]
  exact ⟨_,_,h165.symm,(hk.al rfl),(hs.pick [(1,1),(2,2),(10,10)] rfl),o151,lh152⟩
 intro a w hR0
 rw [hR161] at hR0
 obtain ⟨u154,k155,rfl,hk,hs,o156,lh157⟩:=hR0
 have H:=HL160
 try dsimp only at H
 refine hK145 _ _ <| sq fun _ hK298=>sr fun _ hK299=>mv hk rfl fun a hk=>nx hK299 ?_
 obtain ⟨o311,h312,HL313⟩:=bind_some H
 clear H
 obtain ⟨R314,hR314⟩:=nm fun a w=>∃ (u307:List Int) (k308:Chunk),o311 = .out u307∧Kn [(2,(vP (some ⟨b2,0,none⟩))),(4,(vP (some ⟨b5,0,none⟩)))] 194 a∧Sat [] w0 w [] [(1,k308),(2,k6)]∧Own (Lay.int iS) 77 (some ⟨b2,0,none⟩) 8 u307 k308∧u307.length=8
 refine wp_cutq R314 ?_ ?_
 ·refine wp_block ?_
  obtain ⟨fu316,h312⟩:=loopO_some h312
  obtain ⟨I315,hI315⟩:=nm fun fu a w=>∃ (u302:List Int) (u306:Int) (k303:Chunk),loopN (fun s=>spec_l01Block.s3 u154 s.1 s.2) fu (u302,u306)=some o311∧Kn [(2,(vP (some ⟨b2,0,none⟩))),(4,(vP (some ⟨b5,0,none⟩))),(11,(vP (some ⟨b139,0,none⟩))),(18,(vI iS u306))] 194 a∧Sat [] w0 w [] [(1,k303),(2,k6),(10,k155)]∧Own (Lay.int iS) 77 (some ⟨b2,0,none⟩) 8 u302 k303∧u302.length=8
  refine wp_loop_ghost I315 fu316 ?_ ?_
  ·rw [hI315]
   exact ⟨_,_,_,h312,(hk.al rfl),(hs.pick [(1,1),(2,2),(10,10)] rfl),o4,e0_⟩
  clear h312 hk hs
  intro fu316 a w hI0
  rw [hI315] at hI0
  obtain ⟨u302,u306,k303,hi,hk,hs,o304,lh305⟩:=hI0
  obtain ⟨x317,H,h318⟩:=loop_round hi
  try dsimp only at H
  unfold spec_l01Block.s3 at H
  refine sq fun _ hK319=>sr fun _ hK320=>mv hk rfl fun a hk=>sv (.bool (decide (u306<8))) hk rfl rfl rfl fun a hk=>nx hK320 ?_
  rcases cond_some H with ⟨c321,H⟩ | ⟨c321,H⟩
  ·have hk:=hk.lit 180 c321 rfl
   refine cnd_true hk rfl rfl <| wp_skip <| hK319 _ _ <| sq fun _ hK322=>wp_block ?_
   refine wp_region_tree (.q 0 (.q 1 (.q 2 (.q 3 (.alt 4 (.alt 5 (.alt 6 (.alt 7 (.alt 8 (.alt 9 (.last 10) .stop) .stop) .stop) .stop) .stop) .stop))))) mo (by kernel_rfl) (hs.pick [(1,1),(2,2),(10,10)] rfl) fun _=>?_
   have hs:=hs.drew
   refine tqm hk rfl fun a hk=>tqm hk rfl fun a hk=>?_
   obtain ⟨c324,H⟩:=ite_no H
   obtain ⟨b325,q326,hAc324⟩:=(o304.view).some_ u306 c324.1 (by rw [lh305];exact c324.2)
   refine tqst _ hk rfl rfl rfl rfl (fun w hs=>sia rfl hk rfl rfl rfl rfl un77 sz3 c324.1 c324.2 hAc324 fun a hk=>qe hk) fun a hk=>?_
   obtain ⟨_,rfl,e327⟩:=(o304.view).at_ 0 u306 c324.1 (by rw [lh305];exact c324.2)
   refine tqst _ hk rfl rfl rfl rfl (fun w hs=>sl (v:=(vI iS (u302.getD u306.toNat 0))) rfl hk rfl rfl rfl ag3 ((e327 0 _ rfl).cell (hs.hasG (k:=1) rfl)) fun a hk=>qe hk) fun a hk=>tss hs hk rfl rfl fun _ hK_r323_4 w hs=>mv hk rfl fun a hk=>se (hs.pick [(1,1),(2,2),(10,10)] rfl) hk (hK_r323_4 _ _ ?_)
   refine tss hs hk rfl rfl fun _ hK_r323_5 w hs=>?_
   obtain ⟨c328,H⟩:=ite_no H
   obtain ⟨b329,q330,hAc328⟩:=(o156.view).some_ u306 c328.1 (by rw [lh157];exact c328.2)
   refine sia rfl hk rfl rfl rfl rfl un77 sz3 c328.1 c328.2 hAc328 fun a hk=>se (hs.pick [(1,1),(2,2),(10,10)] rfl) hk (hK_r323_5 _ _ ?_)
   refine tss hs hk rfl rfl fun _ hK_r323_6 w hs=>?_
   obtain ⟨_,rfl,e331⟩:=(o156.view).at_ 0 u306 c328.1 (by rw [lh157];exact c328.2)
   refine sl (v:=(vI iS (u154.getD u306.toNat 0))) rfl hk rfl rfl rfl ag3 ((e331 0 _ rfl).cell (hs.hasG (k:=10) rfl)) fun a hk=>se (hs.pick [(1,1),(2,2),(10,10)] rfl) hk (hK_r323_6 _ _ ?_)
   refine tss hs hk rfl rfl fun _ hK_r323_7 w hs=>sv (vI iS (w64 ((u302.getD u306.toNat 0)+(u154.getD u306.toNat 0)))) hk rfl rfl rfl fun a hk=>se (hs.pick [(1,1),(2,2),(10,10)] rfl) hk (hK_r323_7 _ _ ?_)
   refine tss hs hk rfl rfl fun _ hK_r323_8 w hs=>sv (vI iS (bia6 (w64 ((u302.getD u306.toNat 0)+(u154.getD u306.toNat 0))) 4294967295)) hk rfl rfl rfl fun a hk=>se (hs.pick [(1,1),(2,2),(10,10)] rfl) hk (hK_r323_8 _ _ ?_)
   refine tss hs hk rfl rfl fun _ hK_r323_9 w hs=>?_
   obtain ⟨c332,H⟩:=ite_no H
   obtain ⟨b333,q334,hAc332⟩:=(o304.view).some_ u306 c332.1 (by rw [lh305];exact c332.2)
   refine sia rfl hk rfl rfl rfl rfl un77 sz3 c332.1 c332.2 hAc332 fun a hk=>se (hs.pick [(1,1),(2,2),(10,10)] rfl) hk (hK_r323_9 _ _ ?_)
   refine tlst hk rfl rfl fun K_r323_10 hK_r323_10 w hF=>?_
   have hs:=hs.f hF
   refine so (j:=0) 1 0 (bia6 (w64 ((u302.getD u306.toNat 0)+(u154.getD u306.toNat 0))) 4294967295) hs rfl o304 c332.1 (by rw [lh305];exact c332.2) rfl hk rfl rfl rfl rfl rfl sz3 (by simp [Value.cells,Value.oneCell']) (Nat.le_of_ble_eq_true rfl) (fun _ _ h=>⟨by rw [h.1];rfl,h.2⟩) fun k335 w a hk o336 hs=>?_
   have lh337:(u302.set u306.toNat (bia6 (w64 ((u302.getD u306.toNat 0)+(u154.getD u306.toNat 0))) 4294967295)).length=8:=by rw [List.length_set];exact lh305
   refine se trivial hk (hK_r323_10 _ _ fun w hF=>?_)
   have hs:=hs.f hF
   refine hK322 _ _ ?_
   apply wp_region_lit
   refine mv hk rfl fun a hk=>sv (vI iS (w64 (u306+1))) hk rfl rfl rfl fun a hk=>mv hk rfl fun a hk=>?_
   show wpList _ _ _ [] _ _
   refine wpList_nil ?_
   obtain rfl:=osi H
   obtain ⟨m338,hmm338,h318⟩:=h318
   show ∃ n',n'<_∧I315 n' _ _
   refine ⟨m338,hmm338,?_⟩
   rw [hI315]
   exact ⟨_,_,_,h318,(hk.al rfl),(hs.pick [(1,1),(2,2),(10,10)] rfl),o336,lh337⟩
  have hk:=hk.lit 180 c321 rfl
  refine cnd_false hk rfl rfl <| wp_exit ?_
  obtain rfl:=osi H
  show R314 _ _
  rw [hR314]
  exact ⟨_,_,h318.symm,(hk.al rfl),(hs.pick [(1,1),(2,2)] rfl),o304,lh305⟩
 intro a w hR0
 rw [hR314] at hR0
 obtain ⟨u307,k308,rfl,hk,hs,o309,lh310⟩:=hR0
 have H:=HL313
 try dsimp only at H
 refine hK298 _ _ <| sr fun _ hK339=>slna (k:=1) hs rfl o309 lh310 rfl hk rfl rfl rfl ag77 sz77 fun a hk=>sswa 2 u307 hs rfl o7 lh8 lh310 rfl rfl hk rfl rfl rfl rfl sz77 fun k340 w a hk o341 hs=>nx hK339 <| wp_ret ?_
 obtain rfl:=osi H
 exact fin hk _ [(aggI .i64 u307)] rfl ⟨⟨_,rfl,run_loadA ag77 sz77 o341 lh310 hs (q:=2) rfl⟩,trivial⟩ ⟨rfl,lh310,(hs.pick [] rfl).dnil⟩
noncomputable def spec_l01More.s0  (u10:Int) (u11:Int) (u12:Int) (u13:Int) (u14:Int) (u15:Int) (u16:Int) (u17:Int) (u18:ByteArray):Option ((Int×Int×Int×Int×Int×Int×Int×Int×ByteArray) ⊕ Ex (Int×Int×Int×Int×Int×Int×Int×Int×ByteArray) (S_Hash)) :=
  (bif (decide ((u18.size:Int) ≥ 64)) then ((spec_l01Block.f ([u10,u11,u12,u13,u14,u15,u16,u17]:List Int) u18).bind fun y41=>(if 0≤(64:Int)∧(64:Int)≤(u18.size:Int) then (some (.inl ((y41.getD 0 0),(y41.getD 1 0),(y41.getD 2 0),(y41.getD 3 0),(y41.getD 4 0),(y41.getD 5 0),(y41.getD 6 0),(y41.getD 7 0),(u18.extract (64:Int).toNat u18.size)))) else none)) else (some (.inr (.out (u10,u11,u12,u13,u14,u15,u16,u17,u18)))))
noncomputable def spec_l01More.f (x0:S_Hash) (x1:ByteArray):Option (S_Hash) :=
  (if x0.Buf.size+x1.size≤1152921504606846976 then ((loopO (fun s=>spec_l01More.s0  s.1 s.2.1 s.2.2.1 s.2.2.2.1 s.2.2.2.2.1 s.2.2.2.2.2.1 s.2.2.2.2.2.2.1 s.2.2.2.2.2.2.2.1 s.2.2.2.2.2.2.2.2) (x0.H0,x0.H1,x0.H2,x0.H3,x0.H4,x0.H5,x0.H6,x0.H7,(x0.Buf++x1))).bind fun o=>match o with | .out (u19,u20,u21,u22,u23,u24,u25,u26,u27)=>(some (⟨u19,u20,u21,u22,u23,u24,u25,u26,u27,(w64 (x0.N+(x1.size:Int)))⟩:S_Hash)) | .ret r=>(some r)) else none)
theorem spec_l01More_t (w0:World) (x0:S_Hash) (x1:ByteArray) (r:S_Hash) (H:spec_l01More.f x0 x1=some r) :
    Calls Tryz.prog 51 #[.agg #[vI iS x0.H0,vI iS x0.H1,vI iS x0.H2,vI iS x0.H3,vI iS x0.H4,vI iS x0.H5,vI iS x0.H6,vI iS x0.H7,vS x0.Buf,vI iS x0.N],vS x1] w0 (Ret (fun v w=>v = .agg #[vI iS r.H0,vI iS r.H1,vI iS r.H2,vI iS r.H3,vI iS r.H4,vI iS r.H5,vI iS r.H6,vI iS r.H7,vS r.Buf,vI iS r.N]∧Sat [] w0 w [] [])):=by
 have hs:=sat0 w0 [] (by simp)
 unfold spec_l01More.f at H
 refine enter Tryz.func51 rfl Tryz.ntmps51 rfl fun a hk=>sr fun _ hK1=>sbx 1 hs rfl hk rfl rfl rfl rfl fun b2 w a hk hs=>salx 2 hs rfl hk rfl rfl ze79 rfl fun b3 w a hk hs=>nx hK1 <| sr fun _ hK4=>sf ⟨b2,9,none⟩ rfl hk rfl rfl rfl fd79_2 rfl fun a hk=>sl rfl hk rfl rfl rfl ag3 (box_cell hs (k:=1) rfl rfl) fun a hk=>mv hk rfl fun a hk=>sles rfl hk rfl rfl rfl un9 fun a hk=>sv (vI iS (w64 (x0.N+(x1.size:Int)))) hk rfl rfl rfl fun a hk=>sf ⟨b2,9,none⟩ rfl hk rfl rfl rfl fd79_2 rfl fun a hk=>ssx (cs':=#[vI iS x0.H0,vI iS x0.H1,vI iS x0.H2,vI iS x0.H3,vI iS x0.H4,vI iS x0.H5,vI iS x0.H6,vI iS x0.H7,vS x0.Buf,vI iS (w64 (x0.N+(x1.size:Int)))]) 1 hs rfl rfl hk rfl rfl rfl rfl sz3 rfl rfl rfl rfl fun w a hk hs=>nx hK4 <| sr fun _ hK5=>sf ⟨b2,8,none⟩ rfl hk rfl rfl rfl fd79_1 rfl fun a hk=>sl rfl hk rfl rfl rfl ag9 (box_cell hs (k:=1) rfl rfl) fun a hk=>mv hk rfl fun a hk=>?_
 obtain ⟨c6,H⟩:=ite_no H
 refine ssa rfl hk rfl rfl rfl rfl c6 fun a hk=>sf ⟨b2,8,none⟩ rfl hk rfl rfl rfl fd79_1 rfl fun a hk=>ssx (cs':=#[vI iS x0.H0,vI iS x0.H1,vI iS x0.H2,vI iS x0.H3,vI iS x0.H4,vI iS x0.H5,vI iS x0.H6,vI iS x0.H7,vS (x0.Buf++x1),vI iS (w64 (x0.N+(x1.size:Int)))]) 1 hs rfl rfl hk rfl rfl rfl rfl sz9 rfl rfl rfl rfl fun w a hk hs=>nx hK5 <| sq fun _ hK7=>?_
 obtain ⟨o28,h29,HL30⟩:=bind_some H
 clear H
 obtain ⟨R31,hR31⟩:=nm fun a w=>∃ (u19:Int) (u20:Int) (u21:Int) (u22:Int) (u23:Int) (u24:Int) (u25:Int) (u26:Int) (u27:ByteArray),o28 = .out (u19,u20,u21,u22,u23,u24,u25,u26,u27)∧Kn [(2,(vP (some ⟨b2,0,none⟩))),(4,(vP (some ⟨b3,0,none⟩)))] 31 a∧Sat [] w0 w [] [(1,[(b2,.cells #[vI iS u19,vI iS u20,vI iS u21,vI iS u22,vI iS u23,vI iS u24,vI iS u25,vI iS u26,vS u27,vI iS (w64 (x0.N+(x1.size:Int)))] 79 (0,0))]),(2,[(b3,.cells #[vI iS 0,vI iS 0,vI iS 0,vI iS 0,vI iS 0,vI iS 0,vI iS 0,vI iS 0,vS ByteArray.empty,vI iS 0] 79 (0,0))])]
 refine wp_cutq R31 ?_ ?_
 ·refine wp_block ?_
  obtain ⟨fu33,h29⟩:=loopO_some h29
  obtain ⟨I32,hI32⟩:=nm fun fu a w=>∃ (u10:Int) (u11:Int) (u12:Int) (u13:Int) (u14:Int) (u15:Int) (u16:Int) (u17:Int) (u18:ByteArray),loopN (fun s=>spec_l01More.s0  s.1 s.2.1 s.2.2.1 s.2.2.2.1 s.2.2.2.2.1 s.2.2.2.2.2.1 s.2.2.2.2.2.2.1 s.2.2.2.2.2.2.2.1 s.2.2.2.2.2.2.2.2) fu (u10,u11,u12,u13,u14,u15,u16,u17,u18)=some o28∧Kn [(2,(vP (some ⟨b2,0,none⟩))),(4,(vP (some ⟨b3,0,none⟩)))] 31 a∧Sat [] w0 w [] [(1,[(b2,.cells #[vI iS u10,vI iS u11,vI iS u12,vI iS u13,vI iS u14,vI iS u15,vI iS u16,vI iS u17,vS u18,vI iS (w64 (x0.N+(x1.size:Int)))] 79 (0,0))]),(2,[(b3,.cells #[vI iS 0,vI iS 0,vI iS 0,vI iS 0,vI iS 0,vI iS 0,vI iS 0,vI iS 0,vS ByteArray.empty,vI iS 0] 79 (0,0))])]
  refine wp_loop_ghost I32 fu33 ?_ ?_
  ·rw [hI32]
   exact ⟨_,_,_,_,_,_,_,_,_,h29,(hk.al rfl),(hs.pick [(1,1),(2,2)] rfl)⟩
  clear h29 hk hs
  intro fu33 a w hI0
  rw [hI32] at hI0
  obtain ⟨u10,u11,u12,u13,u14,u15,u16,u17,u18,hi,hk,hs⟩:=hI0
  obtain ⟨x34,H,h35⟩:=loop_round hi
  try dsimp only at H
  unfold spec_l01More.s0 at H
  refine sq fun _ hK36=>sr fun _ hK37=>sf ⟨b2,8,none⟩ rfl hk rfl rfl rfl fd79_1 rfl fun a hk=>sl rfl hk rfl rfl rfl ag9 (box_cell hs (k:=1) rfl rfl) fun a hk=>sles rfl hk rfl rfl rfl un9 fun a hk=>sv (.bool (decide ((u18.size:Int) ≥ 64))) hk rfl rfl rfl fun a hk=>nx hK37 ?_
  rcases cond_some H with ⟨c38,H⟩ | ⟨c38,H⟩
  ·have hk:=hk.lit 19 c38 rfl
   refine cnd_true hk rfl rfl <| wp_skip <| hK36 _ _ <| wp_block ?_
   refine sr fun _ hK39=>sf ⟨b2,0,none⟩ rfl hk rfl rfl rfl fd79_0 rfl fun a hk=>?_
   have lh40:([u10,u11,u12,u13,u14,u15,u16,u17]:List Int).length=8:=rfl
   refine slnB (k:=1) (ik:=.i64) (vs:=[vI iS u10,vI iS u11,vI iS u12,vI iS u13,vI iS u14,vI iS u15,vI iS u16,vI iS u17,vS u18,vI iS (w64 (x0.N+(x1.size:Int)))]) ([u10,u11,u12,u13,u14,u15,u16,u17]:List Int) hs rfl rfl lh40 rfl hk rfl rfl rfl ag77 sz77 fun a hk=>sf ⟨b2,8,none⟩ rfl hk rfl rfl rfl fd79_1 rfl fun a hk=>sl rfl hk rfl rfl rfl ag9 (box_cell hs (k:=1) rfl rfl) fun a hk=>?_
   obtain ⟨y41,h42,H⟩:=bind_some H
   refine sc rfl en75 hk rfl rfl rfl (spec_l01Block_t _ ([u10,u11,u12,u13,u14,u15,u16,u17]:List Int) lh40 u18 _ h42) ?_
   rintro _ w ⟨rfl,lh43,hG⟩ a hk
   have hs:=hs.call0 hG
   refine sf ⟨b2,0,none⟩ rfl hk rfl rfl rfl fd79_0 rfl fun a hk=>ssB (vs':=[vI iS (y41.getD 0 0),vI iS (y41.getD 1 0),vI iS (y41.getD 2 0),vI iS (y41.getD 3 0),vI iS (y41.getD 4 0),vI iS (y41.getD 5 0),vI iS (y41.getD 6 0),vI iS (y41.getD 7 0),vS u18,vI iS (w64 (x0.N+(x1.size:Int)))]) 1 y41 hs rfl rfl hk rfl rfl rfl rfl sz77 lh43 rfl rfl fun w a hk hs=>nx hK39 ?_
   apply wp_region_lit
   refine sf ⟨b2,8,none⟩ rfl hk rfl rfl rfl fd79_1 rfl fun a hk=>sl rfl hk rfl rfl rfl ag9 (box_cell hs (k:=1) rfl rfl) fun a hk=>?_
   obtain ⟨c44,H⟩:=ite_no H
   refine ssl_l rfl hk rfl rfl rfl rfl un9 c44.1 c44.2 fun a hk=>sf ⟨b2,8,none⟩ rfl hk rfl rfl rfl fd79_1 rfl fun a hk=>ssx (cs':=#[vI iS (y41.getD 0 0),vI iS (y41.getD 1 0),vI iS (y41.getD 2 0),vI iS (y41.getD 3 0),vI iS (y41.getD 4 0),vI iS (y41.getD 5 0),vI iS (y41.getD 6 0),vI iS (y41.getD 7 0),vS (u18.extract (64:Int).toNat u18.size),vI iS (w64 (x0.N+(x1.size:Int)))]) 1 hs rfl rfl hk rfl rfl rfl rfl sz9 rfl rfl rfl rfl fun w a hk hs=>?_
   show wpList _ _ _ [] _ _
   refine wpList_nil ?_
   obtain rfl:=osi H
   obtain ⟨m45,hmm45,h35⟩:=h35
   show ∃ n',n'<_∧I32 n' _ _
   refine ⟨m45,hmm45,?_⟩
   rw [hI32]
   exact ⟨_,_,_,_,_,_,_,_,_,h35,(hk.al rfl),(hs.pick [(1,1),(2,2)] rfl)⟩
  have hk:=hk.lit 19 c38 rfl
  refine cnd_false hk rfl rfl <| wp_exit ?_
  obtain rfl:=osi H
  show R31 _ _
  rw [hR31]
  exact ⟨_,_,_,_,_,_,_,_,_,h35.symm,(hk.al rfl),(hs.pick [(1,1),(2,2)] rfl)⟩
 intro a w hR0
 rw [hR31] at hR0
 obtain ⟨u19,u20,u21,u22,u23,u24,u25,u26,u27,rfl,hk,hs⟩:=hR0
 have H:=HL30
 try dsimp only at H
 refine hK7 _ _ <| sr fun _ hK46=>sln [vI iS u19,vI iS u20,vI iS u21,vI iS u22,vI iS u23,vI iS u24,vI iS u25,vI iS u26,vS u27,vI iS (w64 (x0.N+(x1.size:Int)))] rfl hk rfl rfl rfl ag79 sz79 (box_cells hs (k:=1) rfl) fun a hk=>ssw 2 hs rfl rfl hk rfl rfl rfl rfl sz79 (by simp [Value.oneCell']) rfl fun w a hk hs=>nx hK46 <| wp_ret ?_
 obtain rfl:=osi H
 exact fin hk _ [(.agg #[vI iS u19,vI iS u20,vI iS u21,vI iS u22,vI iS u23,vI iS u24,vI iS u25,vI iS u26,vS u27,vI iS (w64 (x0.N+(x1.size:Int)))])] rfl ⟨⟨_,rfl,run_loadN ag79 sz79 (box_cells hs (k:=2) rfl)⟩,trivial⟩ ⟨rfl,(hs.pick [] rfl).dnil⟩
noncomputable def spec_l01Sum.s0 (x0:S_Hash) (u15:List Int):Option (((List Int)) ⊕ Ex ((List Int)) (ByteArray)) :=
  (bif ((Int.tmod (w64 (x0.N+(u15.length:Int))) 64) != 56) then (if u15.length+([0]).length≤1073741824 then (some (.inl (u15++([0])))) else none) else (some (.inr (.out u15))))
noncomputable def spec_l01Sum.s1 (x0:S_Hash) (u54:List Int) (u53:Int):Option (((List Int)×Int) ⊕ Ex ((List Int)) (ByteArray)) :=
  (bif (decide (u53 ≥ 0)) then (if 0≤(w64 (8*u53)) then (if u54.length+([(wR iB (Int.fdiv (w64 (8*x0.N)) (2 ^ min (w64 (8*u53)).toNat 64)))]).length≤1073741824 then (some (.inl ((u54++([(wR iB (Int.fdiv (w64 (8*x0.N)) (2 ^ min (w64 (8*u53)).toNat 64)))])),(w64 (u53-1))))) else none) else none) else (some (.inr (.out u54))))
noncomputable def spec_l01Sum.s3 (y87:S_Hash) (u101:Int) (u132:List Int) (u131:Int):Option (((List Int)×Int) ⊕ Ex ((List Int)) (ByteArray)) :=
  (bif (decide (u131 ≥ 0)) then (if 0≤u101∧u101<(8:Int) then (if 0≤(w64 (8*u131)) then (if u132.length+([(wR iB (Int.fdiv (([y87.H0,y87.H1,y87.H2,y87.H3,y87.H4,y87.H5,y87.H6,y87.H7]:List Int).getD u101.toNat 0) (2 ^ min (w64 (8*u131)).toNat 64)))]).length≤1073741824 then (some (.inl ((u132++([(wR iB (Int.fdiv (([y87.H0,y87.H1,y87.H2,y87.H3,y87.H4,y87.H5,y87.H6,y87.H7]:List Int).getD u101.toNat 0) (2 ^ min (w64 (8*u131)).toNat 64)))])),(w64 (u131-1))))) else none) else none) else none) else (some (.inr (.out u132))))
noncomputable def spec_l01Sum.s2 (y87:S_Hash) (u102:List Int) (u101:Int):Option (((List Int)×Int) ⊕ Ex ((List Int)) (ByteArray)) :=
  (bif (decide (u101<8)) then ((loopO (fun s=>spec_l01Sum.s3 y87 u101 s.1 s.2) (u102,3)).bind fun o=>match o with | .out u137=>(some (.inl (u137,(w64 (u101+1))))) | .ret r=>(some (.inr (.ret r)))) else (some (.inr (.out u102))))
noncomputable def spec_l01Sum.f (x0:S_Hash):Option (ByteArray) :=
  ((loopO (fun s=>spec_l01Sum.s0 x0 s) ([128])).bind fun o=>match o with | .out u20=>((loopO (fun s=>spec_l01Sum.s1 x0 s.1 s.2) (u20,7)).bind fun o=>match o with | .out u59=>((spec_l01More.f x0 (strOfNums u59)).bind fun y87=>((loopO (fun s=>spec_l01Sum.s2 y87 s.1 s.2) (([]:List Int),0)).bind fun o=>match o with | .out u107=>(some (strOfNums u107)) | .ret r=>(some r))) | .ret r=>(some r)) | .ret r=>(some r))
theorem spec_l01Sum_t (w0:World) (x0:S_Hash) (r:ByteArray) (H:spec_l01Sum.f x0=some r) :
    Calls Tryz.prog 50 #[.agg #[vI iS x0.H0,vI iS x0.H1,vI iS x0.H2,vI iS x0.H3,vI iS x0.H4,vI iS x0.H5,vI iS x0.H6,vI iS x0.H7,vS x0.Buf,vI iS x0.N]] w0 (Ret (fun v w=>v=vS r∧Sat [] w0 w [] [])):=by
 have hs:=sat0 w0 [] (by simp)
 unfold spec_l01Sum.f at H
 refine enter Tryz.func50 rfl Tryz.ntmps50 rfl fun a hk=>sr fun _ hK1=>sbx 1 hs rfl hk rfl rfl rfl rfl fun b2 w a hk hs=>mv hk rfl fun a hk=>nx hK1 <| sr fun _ hK3=>sf ⟨b2,9,none⟩ rfl hk rfl rfl rfl fd79_2 rfl fun a hk=>sl rfl hk rfl rfl rfl ag3 (box_cell hs (k:=1) rfl rfl) fun a hk=>sv (vI iS (w64 (8*x0.N))) hk rfl rfl rfl fun a hk=>mv hk rfl fun a hk=>nx hK3 <| sr fun _ hK4=>sbs (L:=(Lay.int iB)) (pv:=[(0,(vI iB 128))]) (xs:=[128]) (ess:=[[vI iB 128]]) 2 hs rfl hk rfl rfl rfl un101 (bs5_4 128) (AllOwn.cons0 ⟨rfl,rfl⟩ AllOwn.nil) rfl rfl rfl fun b5 k6 w a hk o7 hs=>mv hk rfl fun a hk=>nx hK4 <| sq fun _ hK8=>?_
 obtain ⟨o25,h26,HL27⟩:=bind_some H
 clear H
 obtain ⟨R28,hR28⟩:=nm fun a w=>∃ (u20:List Int) (A23:Option Addr) (p24:Nat) (k21:Chunk),o25 = .out u20∧Kn [(1,(vP (some ⟨b2,0,none⟩))),(3,(vI iS (w64 (8*x0.N)))),(4,(vL A23 u20.length p24))] 61 a∧Sat [] w0 w [] [(2,k21),(1,[(b2,.cells #[vI iS x0.H0,vI iS x0.H1,vI iS x0.H2,vI iS x0.H3,vI iS x0.H4,vI iS x0.H5,vI iS x0.H6,vI iS x0.H7,vS x0.Buf,vI iS x0.N] 79 (0,0))])]∧Own (Lay.int iB) 5 A23 p24 u20 k21
 refine wp_cutq R28 ?_ ?_
 ·refine wp_block ?_
  obtain ⟨fu30,h26⟩:=loopO_some h26
  obtain ⟨I29,hI29⟩:=nm fun fu a w=>∃ (u15:List Int) (A18:Option Addr) (p19:Nat) (k16:Chunk),loopN (fun s=>spec_l01Sum.s0 x0 s) fu u15=some o25∧Kn [(1,(vP (some ⟨b2,0,none⟩))),(3,(vI iS (w64 (8*x0.N)))),(4,(vL A18 u15.length p19))] 61 a∧Sat [] w0 w [] [(2,k16),(1,[(b2,.cells #[vI iS x0.H0,vI iS x0.H1,vI iS x0.H2,vI iS x0.H3,vI iS x0.H4,vI iS x0.H5,vI iS x0.H6,vI iS x0.H7,vS x0.Buf,vI iS x0.N] 79 (0,0))])]∧Own (Lay.int iB) 5 A18 p19 u15 k16
  refine wp_loop_ghost I29 fu30 ?_ ?_
  ·rw [hI29]
   exact ⟨_,(some ⟨b5,0,none⟩),1,_,h26,(hk.al rfl),(hs.pick [(2,2),(1,1)] rfl),o7⟩
  clear h26 hk hs
  intro fu30 a w hI0
  rw [hI29] at hI0
  obtain ⟨u15,A18,p19,k16,hi,hk,hs,o17⟩:=hI0
  obtain ⟨x31,H,h32⟩:=loop_round hi
  try dsimp only at H
  unfold spec_l01Sum.s0 at H
  refine sq fun _ hK33=>sr fun _ hK34=>sf ⟨b2,9,none⟩ rfl hk rfl rfl rfl fd79_2 rfl fun a hk=>sl rfl hk rfl rfl rfl ag3 (box_cell hs (k:=1) rfl rfl) fun a hk=>mv hk rfl fun a hk=>sle rfl hk rfl rfl rfl un101 fun a hk=>sv (vI iS (w64 (x0.N+(u15.length:Int)))) hk rfl rfl rfl fun a hk=>sv (vI iS (Int.tmod (w64 (x0.N+(u15.length:Int))) 64)) hk rfl rfl rfl fun a hk=>sv (.bool ((Int.tmod (w64 (x0.N+(u15.length:Int))) 64) != 56)) hk rfl rfl rfl fun a hk=>nx hK34 ?_
  rcases cond_some H with ⟨c35,H⟩ | ⟨c35,H⟩
  ·have hk:=hk.lit 19 c35 rfl
   refine cnd_true hk rfl rfl <| wp_skip <| hK33 _ _ <| wp_block ?_
   apply wp_region_lit
   refine mv hk rfl fun a hk=>sbs (L:=(Lay.int iB)) (pv:=[(0,(vI iB 0))]) (xs:=[0]) (ess:=[[vI iB 0]]) 4 hs rfl hk rfl rfl rfl un101 (bs5_4 0) (AllOwn.cons0 ⟨rfl,rfl⟩ AllOwn.nil) rfl rfl rfl fun b36 k37 w a hk o38 hs=>?_
   obtain ⟨c39,H⟩:=ite_no H
   refine sap 2 (xs:=u15) (ys:=[0]) (flat_flat:((Lay.int iB)).Flat) hs rfl o17 o38.view (hs.hasG (k:=4) rfl) rfl hk rfl rfl rfl rfl rfl rfl un101 mk5 rfl rfl rfl c39 fun A40 p41 k42 w a hk o43 hs=>mv hk rfl fun a hk=>?_
   show wpList _ _ _ [] _ _
   refine wpList_nil ?_
   obtain rfl:=osi H
   obtain ⟨m44,hmm44,h32⟩:=h32
   show ∃ n',n'<_∧I29 n' _ _
   refine ⟨m44,hmm44,?_⟩
   rw [hI29]
   exact ⟨_,A40,p41,_,h32,(hk.al rfl),(hs.pick [(2,2),(1,1)] rfl),o43⟩
  have hk:=hk.lit 19 c35 rfl
  refine cnd_false hk rfl rfl <| wp_exit ?_
  obtain rfl:=osi H
  show R28 _ _
  rw [hR28]
  exact ⟨_,A18,p19,_,h32.symm,(hk.al rfl),(hs.pick [(2,2),(1,1)] rfl),o17⟩
 intro a w hR0
 rw [hR28] at hR0
 obtain ⟨u20,A23,p24,k21,rfl,hk,hs,o22⟩:=hR0
 have H:=HL27
 try dsimp only at H
 refine hK8 _ _ <| sq fun _ hK45=>sr fun _ hK46=>mv hk rfl fun a hk=>nx hK46 ?_
 obtain ⟨o64,h65,HL66⟩:=bind_some H
 clear H
 obtain ⟨R67,hR67⟩:=nm fun a w=>∃ (u59:List Int) (A62:Option Addr) (p63:Nat) (k60:Chunk),o64 = .out u59∧Kn [(1,(vP (some ⟨b2,0,none⟩))),(4,(vL A62 u59.length p63))] 61 a∧Sat [] w0 w [] [(2,k60),(1,[(b2,.cells #[vI iS x0.H0,vI iS x0.H1,vI iS x0.H2,vI iS x0.H3,vI iS x0.H4,vI iS x0.H5,vI iS x0.H6,vI iS x0.H7,vS x0.Buf,vI iS x0.N] 79 (0,0))])]∧Own (Lay.int iB) 5 A62 p63 u59 k60
 refine wp_cutq R67 ?_ ?_
 ·refine wp_block ?_
  obtain ⟨fu69,h65⟩:=loopO_some h65
  obtain ⟨I68,hI68⟩:=nm fun fu a w=>∃ (u54:List Int) (u53:Int) (A57:Option Addr) (p58:Nat) (k55:Chunk),loopN (fun s=>spec_l01Sum.s1 x0 s.1 s.2) fu (u54,u53)=some o64∧Kn [(1,(vP (some ⟨b2,0,none⟩))),(3,(vI iS (w64 (8*x0.N)))),(4,(vL A57 u54.length p58)),(5,(vI iS u53))] 61 a∧Sat [] w0 w [] [(2,k55),(1,[(b2,.cells #[vI iS x0.H0,vI iS x0.H1,vI iS x0.H2,vI iS x0.H3,vI iS x0.H4,vI iS x0.H5,vI iS x0.H6,vI iS x0.H7,vS x0.Buf,vI iS x0.N] 79 (0,0))])]∧Own (Lay.int iB) 5 A57 p58 u54 k55
  refine wp_loop_ghost I68 fu69 ?_ ?_
  ·rw [hI68]
   exact ⟨_,_,A23,p24,_,h65,(hk.al rfl),(hs.pick [(2,2),(1,1)] rfl),o22⟩
  clear h65 hk hs
  intro fu69 a w hI0
  rw [hI68] at hI0
  obtain ⟨u54,u53,A57,p58,k55,hi,hk,hs,o56⟩:=hI0
  obtain ⟨x70,H,h71⟩:=loop_round hi
  try dsimp only at H
  unfold spec_l01Sum.s1 at H
  refine sq fun _ hK72=>sr fun _ hK73=>mv hk rfl fun a hk=>sv (.bool (decide (u53 ≥ 0))) hk rfl rfl rfl fun a hk=>nx hK73 ?_
  rcases cond_some H with ⟨c74,H⟩ | ⟨c74,H⟩
  ·have hk:=hk.lit 24 c74 rfl
   refine cnd_true hk rfl rfl <| wp_skip <| hK72 _ _ <| sq fun _ hK75=>wp_block ?_
   apply wp_region_lit
   refine mv hk rfl fun a hk=>mv hk rfl fun a hk=>mv hk rfl fun a hk=>sv (vI iS (w64 (8*u53))) hk rfl rfl rfl fun a hk=>?_
   obtain ⟨c76,H⟩:=ite_no H
   refine ssr rfl hk rfl rfl rfl rfl c76 fun a hk=>scn rfl hk rfl rfl rfl un5 un3 fun a hk=>sbs (L:=(Lay.int iB)) (pv:=[(0,(vI iB (wR iB (Int.fdiv (w64 (8*x0.N)) (2 ^ min (w64 (8*u53)).toNat 64)))))]) (xs:=[(wR iB (Int.fdiv (w64 (8*x0.N)) (2 ^ min (w64 (8*u53)).toNat 64)))]) (ess:=[[vI iB (wR iB (Int.fdiv (w64 (8*x0.N)) (2 ^ min (w64 (8*u53)).toNat 64)))]]) 6 hs rfl hk rfl rfl rfl un101 (bs5_4 (wR iB (Int.fdiv (w64 (8*x0.N)) (2 ^ min (w64 (8*u53)).toNat 64)))) (AllOwn.cons0 ⟨rfl,rfl⟩ AllOwn.nil) rfl rfl rfl fun b77 k78 w a hk o79 hs=>?_
   obtain ⟨c80,H⟩:=ite_no H
   refine sap 2 (xs:=u54) (ys:=[(wR iB (Int.fdiv (w64 (8*x0.N)) (2 ^ min (w64 (8*u53)).toNat 64)))]) (flat_flat:((Lay.int iB)).Flat) hs rfl o56 o79.view (hs.hasG (k:=6) rfl) rfl hk rfl rfl rfl rfl rfl rfl un101 mk5 rfl rfl rfl c80 fun A81 p82 k83 w a hk o84 hs=>mv hk rfl fun a hk=>nx hK75 ?_
   have hs:=hs.pick [(2,2),(1,1)] rfl
   apply wp_region_lit
   refine mv hk rfl fun a hk=>sv (vI iS (w64 (u53-1))) hk rfl rfl rfl fun a hk=>mv hk rfl fun a hk=>?_
   show wpList _ _ _ [] _ _
   refine wpList_nil ?_
   obtain rfl:=osi H
   obtain ⟨m85,hmm85,h71⟩:=h71
   show ∃ n',n'<_∧I68 n' _ _
   refine ⟨m85,hmm85,?_⟩
   rw [hI68]
   exact ⟨_,_,A81,p82,_,h71,(hk.al rfl),(hs.pick [(2,2),(1,1)] rfl),o84⟩
  have hk:=hk.lit 24 c74 rfl
  refine cnd_false hk rfl rfl <| wp_exit ?_
  obtain rfl:=osi H
  show R67 _ _
  rw [hR67]
  exact ⟨_,A57,p58,_,h71.symm,(hk.al rfl),(hs.pick [(2,2),(1,1)] rfl),o56⟩
 intro a w hR0
 rw [hR67] at hR0
 obtain ⟨u59,A62,p63,k60,rfl,hk,hs,o61⟩:=hR0
 have H:=HL66
 try dsimp only at H
 refine hK45 _ _ <| sr fun _ hK86=>sln [vI iS x0.H0,vI iS x0.H1,vI iS x0.H2,vI iS x0.H3,vI iS x0.H4,vI iS x0.H5,vI iS x0.H6,vI iS x0.H7,vS x0.Buf,vI iS x0.N] rfl hk rfl rfl rfl ag79 sz79 (box_cells hs (k:=1) rfl) fun a hk=>mv hk rfl fun a hk=>sbt (xs:=u59) rfl hk rfl rfl rfl rfl un101 un5 un9 o61.view (hs.hasG (k:=2) rfl) fun a hk=>?_
 obtain ⟨y87,h88,H⟩:=bind_some H
 refine sc rfl en51 hk rfl rfl rfl (spec_l01More_t _ x0 (strOfNums u59) _ h88) ?_
 rintro _ w ⟨rfl,hG⟩ a hk
 have hs:=hs.call0 hG
 refine ssw 1 hs rfl rfl hk rfl rfl rfl rfl sz79 (by simp [Value.oneCell']) rfl fun w a hk hs=>nx hK86 <| sr fun _ hK89=>sbs0 7 (Lay.int iB) hs rfl hk rfl rfl un101 sz5 fun b90 k91 w a hk o92 hs=>mv hk rfl fun a hk=>nx hK89 ?_
 have hs:=hs.pick [(7,7),(1,1)] rfl
 refine sq fun _ hK93=>sr fun _ hK94=>mv hk rfl fun a hk=>nx hK94 ?_
 obtain ⟨o112,h113,HL114⟩:=bind_some H
 clear H
 obtain ⟨R115,hR115⟩:=nm fun a w=>∃ (u107:List Int) (A110:Option Addr) (p111:Nat) (k108:Chunk),o112 = .out u107∧Kn [(6,(vL A110 u107.length p111))] 61 a∧Sat [] w0 w [] [(7,k108)]∧Own (Lay.int iB) 5 A110 p111 u107 k108
 refine wp_cutq R115 ?_ ?_
 ·refine wp_block ?_
  obtain ⟨fu117,h113⟩:=loopO_some h113
  obtain ⟨I116,hI116⟩:=nm fun fu a w=>∃ (u102:List Int) (u101:Int) (A105:Option Addr) (p106:Nat) (k103:Chunk),loopN (fun s=>spec_l01Sum.s2 y87 s.1 s.2) fu (u102,u101)=some o112∧Kn [(1,(vP (some ⟨b2,0,none⟩))),(6,(vL A105 u102.length p106)),(7,(vI iS u101))] 61 a∧Sat [] w0 w [] [(7,k103),(1,[(b2,.cells #[vI iS y87.H0,vI iS y87.H1,vI iS y87.H2,vI iS y87.H3,vI iS y87.H4,vI iS y87.H5,vI iS y87.H6,vI iS y87.H7,vS y87.Buf,vI iS y87.N] 79 (0,0))])]∧Own (Lay.int iB) 5 A105 p106 u102 k103
  refine wp_loop_ghost I116 fu117 ?_ ?_
  ·rw [hI116]
   exact ⟨_,_,(some ⟨b90,0,none⟩),0,_,h113,(hk.al rfl),(hs.pick [(7,7),(1,1)] rfl),o92⟩
  clear h113 hk hs
  intro fu117 a w hI0
  rw [hI116] at hI0
  obtain ⟨u102,u101,A105,p106,k103,hi,hk,hs,o104⟩:=hI0
  obtain ⟨x118,H,h119⟩:=loop_round hi
  try dsimp only at H
  unfold spec_l01Sum.s2 at H
  refine sq fun _ hK120=>sr fun _ hK121=>mv hk rfl fun a hk=>sv (.bool (decide (u101<8))) hk rfl rfl rfl fun a hk=>nx hK121 ?_
  rcases cond_some H with ⟨c122,H⟩ | ⟨c122,H⟩
  ·have hk:=hk.lit 41 c122 rfl
   refine cnd_true hk rfl rfl <| wp_skip <| hK120 _ _ <| sq fun _ hK123=>wp_block ?_
   refine sr fun _ hK124=>mv hk rfl fun a hk=>nx hK124 ?_
   obtain ⟨o142,h143,HL144⟩:=bind_some H
   clear H
   obtain ⟨R145,hR145⟩:=nm fun a w=>∃ (u137:List Int) (A140:Option Addr) (p141:Nat) (k138:Chunk),o142 = .out u137∧Kn [(1,(vP (some ⟨b2,0,none⟩))),(6,(vL A140 u137.length p141)),(7,(vI iS u101))] 61 a∧Sat [] w0 w [] [(7,k138),(1,[(b2,.cells #[vI iS y87.H0,vI iS y87.H1,vI iS y87.H2,vI iS y87.H3,vI iS y87.H4,vI iS y87.H5,vI iS y87.H6,vI iS y87.H7,vS y87.Buf,vI iS y87.N] 79 (0,0))])]∧Own (Lay.int iB) 5 A140 p141 u137 k138
   refine wp_cutq R145 ?_ ?_
   ·refine wp_block ?_
    obtain ⟨fu147,h143⟩:=loopO_some h143
    obtain ⟨I146,hI146⟩:=nm fun fu a w=>∃ (u132:List Int) (u131:Int) (A135:Option Addr) (p136:Nat) (k133:Chunk),loopN (fun s=>spec_l01Sum.s3 y87 u101 s.1 s.2) fu (u132,u131)=some o142∧Kn [(1,(vP (some ⟨b2,0,none⟩))),(6,(vL A135 u132.length p136)),(7,(vI iS u101)),(8,(vI iS u131))] 61 a∧Sat [] w0 w [] [(7,k133),(1,[(b2,.cells #[vI iS y87.H0,vI iS y87.H1,vI iS y87.H2,vI iS y87.H3,vI iS y87.H4,vI iS y87.H5,vI iS y87.H6,vI iS y87.H7,vS y87.Buf,vI iS y87.N] 79 (0,0))])]∧Own (Lay.int iB) 5 A135 p136 u132 k133
    refine wp_loop_ghost I146 fu147 ?_ ?_
    ·rw [hI146]
     exact ⟨_,_,A105,p106,_,h143,(hk.al rfl),(hs.pick [(7,7),(1,1)] rfl),o104⟩
    clear h143 hk hs
    intro fu147 a w hI0
    rw [hI146] at hI0
    obtain ⟨u132,u131,A135,p136,k133,hi,hk,hs,o134⟩:=hI0
    obtain ⟨x148,H,h149⟩:=loop_round hi
    try dsimp only at H
    unfold spec_l01Sum.s3 at H
    refine sq fun _ hK150=>sr fun _ hK151=>mv hk rfl fun a hk=>sv (.bool (decide (u131 ≥ 0))) hk rfl rfl rfl fun a hk=>nx hK151 ?_
    rcases cond_some H with ⟨c152,H⟩ | ⟨c152,H⟩
    ·have hk:=hk.lit 45 c152 rfl
     refine cnd_true hk rfl rfl <| wp_skip <| hK150 _ _ <| sq fun _ hK153=>wp_block ?_
     apply wp_region_lit
     refine mv hk rfl fun a hk=>mv hk rfl fun a hk=>sf ⟨b2,0,none⟩ rfl hk rfl rfl rfl fd79_0 rfl fun a hk=>?_
     obtain ⟨c154,H⟩:=ite_no H
     refine sia rfl hk rfl rfl rfl rfl un77 sz3 c154.1 c154.2 rfl fun a hk=>slBE (k:=1) (ik:=.i64) (vs:=[vI iS y87.H0,vI iS y87.H1,vI iS y87.H2,vI iS y87.H3,vI iS y87.H4,vI iS y87.H5,vI iS y87.H6,vI iS y87.H7,vS y87.Buf,vI iS y87.N]) ([y87.H0,y87.H1,y87.H2,y87.H3,y87.H4,y87.H5,y87.H6,y87.H7]:List Int) hs rfl rfl rfl rfl hk rfl rfl rfl ag3 c154.1 c154.2 fun a hk=>mv hk rfl fun a hk=>sv (vI iS (w64 (8*u131))) hk rfl rfl rfl fun a hk=>?_
     obtain ⟨c155,H⟩:=ite_no H
     refine ssr rfl hk rfl rfl rfl rfl c155 fun a hk=>scn rfl hk rfl rfl rfl un5 un3 fun a hk=>sbs (L:=(Lay.int iB)) (pv:=[(0,(vI iB (wR iB (Int.fdiv (([y87.H0,y87.H1,y87.H2,y87.H3,y87.H4,y87.H5,y87.H6,y87.H7]:List Int).getD u101.toNat 0) (2 ^ min (w64 (8*u131)).toNat 64)))))]) (xs:=[(wR iB (Int.fdiv (([y87.H0,y87.H1,y87.H2,y87.H3,y87.H4,y87.H5,y87.H6,y87.H7]:List Int).getD u101.toNat 0) (2 ^ min (w64 (8*u131)).toNat 64)))]) (ess:=[[vI iB (wR iB (Int.fdiv (([y87.H0,y87.H1,y87.H2,y87.H3,y87.H4,y87.H5,y87.H6,y87.H7]:List Int).getD u101.toNat 0) (2 ^ min (w64 (8*u131)).toNat 64)))]]) 10 hs rfl hk rfl rfl rfl un101 (bs5_4 (wR iB (Int.fdiv (([y87.H0,y87.H1,y87.H2,y87.H3,y87.H4,y87.H5,y87.H6,y87.H7]:List Int).getD u101.toNat 0) (2 ^ min (w64 (8*u131)).toNat 64)))) (AllOwn.cons0 ⟨rfl,rfl⟩ AllOwn.nil) rfl rfl rfl fun b156 k157 w a hk o158 hs=>?_
     obtain ⟨c159,H⟩:=ite_no H
     refine sap 7 (xs:=u132) (ys:=[(wR iB (Int.fdiv (([y87.H0,y87.H1,y87.H2,y87.H3,y87.H4,y87.H5,y87.H6,y87.H7]:List Int).getD u101.toNat 0) (2 ^ min (w64 (8*u131)).toNat 64)))]) (flat_flat:((Lay.int iB)).Flat) hs rfl o134 o158.view (hs.hasG (k:=10) rfl) rfl hk rfl rfl rfl rfl rfl rfl un101 mk5 rfl rfl rfl c159 fun A160 p161 k162 w a hk o163 hs=>mv hk rfl fun a hk=>nx hK153 ?_
     apply wp_region_lit
     refine mv hk rfl fun a hk=>sv (vI iS (w64 (u131-1))) hk rfl rfl rfl fun a hk=>mv hk rfl fun a hk=>?_
     show wpList _ _ _ [] _ _
     refine wpList_nil ?_
     obtain rfl:=osi H
     obtain ⟨m164,hmm164,h149⟩:=h149
     show ∃ n',n'<_∧I146 n' _ _
     refine ⟨m164,hmm164,?_⟩
     rw [hI146]
     exact ⟨_,_,A160,p161,_,h149,(hk.al rfl),(hs.pick [(7,7),(1,1)] rfl),o163⟩
    have hk:=hk.lit 45 c152 rfl
    refine cnd_false hk rfl rfl <| wp_exit ?_
    obtain rfl:=osi H
    show R145 _ _
    rw [hR145]
    exact ⟨_,A135,p136,_,h149.symm,(hk.al rfl),(hs.pick [(7,7),(1,1)] rfl),o134⟩
   intro a w hR0
   rw [hR145] at hR0
   obtain ⟨u137,A140,p141,k138,rfl,hk,hs,o139⟩:=hR0
   have H:=HL144
   try dsimp only at H
   refine hK123 _ _ ?_
   apply wp_region_lit
   refine mv hk rfl fun a hk=>sv (vI iS (w64 (u101+1))) hk rfl rfl rfl fun a hk=>mv hk rfl fun a hk=>?_
   show wpList _ _ _ [] _ _
   refine wpList_nil ?_
   obtain rfl:=osi H
   obtain ⟨m165,hmm165,h119⟩:=h119
   show ∃ n',n'<_∧I116 n' _ _
   refine ⟨m165,hmm165,?_⟩
   rw [hI116]
   exact ⟨_,_,A140,p141,_,h119,(hk.al rfl),(hs.pick [(7,7),(1,1)] rfl),o139⟩
  have hk:=hk.lit 41 c122 rfl
  refine cnd_false hk rfl rfl <| wp_exit ?_
  obtain rfl:=osi H
  show R115 _ _
  rw [hR115]
  exact ⟨_,A105,p106,_,h119.symm,(hk.al rfl),(hs.pick [(7,7)] rfl),o104⟩
 intro a w hR0
 rw [hR115] at hR0
 obtain ⟨u107,A110,p111,k108,rfl,hk,hs,o109⟩:=hR0
 have H:=HL114
 try dsimp only at H
 refine hK93 _ _ <| sr fun _ hK166=>mv hk rfl fun a hk=>sbt (xs:=u107) rfl hk rfl rfl rfl rfl un101 un5 un9 o109.view (hs.hasG (k:=7) rfl) fun a hk=>mv hk rfl fun a hk=>nx hK166 <| wp_ret ?_
 obtain rfl:=osi H
 exact fin hk _ [(vS (strOfNums u107))] rfl ⟨rfl,trivial⟩ ⟨rfl,(hs.pick [] rfl).dnil⟩
noncomputable def spec_l01Start.f  : Option ((List Int)) :=
  (some ([1779033703,3144134277,1013904242,2773480762,1359893119,2600822924,528734635,1541459225]:List Int))
theorem spec_l01Start_t (w0:World)  (r:(List Int)) (H:spec_l01Start.f  = some r) :
    Calls Tryz.prog 76 #[] w0 (Ret (fun v w=>v=aggI .i64 r∧r.length=8∧Sat [] w0 w [] [])):=by
 have hs:=sat0 w0 [] (by simp)
 unfold spec_l01Start.f at H
 refine enter Tryz.func76 rfl Tryz.ntmps76 rfl fun a hk=>sr fun _ hK1=>sala 1 ((Lay.int iS)) (m:=8) (z:=0) (zc:=[vI iS 0]) hs rfl hk rfl rfl ze77 (by exact ⟨rfl,rfl⟩) rfl rfl rfl fun b2 k3 w a hk o4 hs=>?_
 have lh5:(List.replicate 8 (0:Int)).length=8:=List.length_replicate
 refine nx hK1 <| sr fun _ hK6=>sbd (pv:=[(0,(vI iS 1779033703)),(1,(vI iS 3144134277)),(2,(vI iS 1013904242)),(3,(vI iS 2773480762)),(4,(vI iS 1359893119)),(5,(vI iS 2600822924)),(6,(vI iS 528734635)),(7,(vI iS 1541459225))]) rfl hk rfl rfl rfl (bd77_15 1779033703 3144134277 1013904242 2773480762 1359893119 2600822924 528734635 1541459225) fun a hk=>?_
 have lh7:([1779033703,3144134277,1013904242,2773480762,1359893119,2600822924,528734635,1541459225]:List Int).length=8:=rfl
 refine sswa 1 ([1779033703,3144134277,1013904242,2773480762,1359893119,2600822924,528734635,1541459225]:List Int) hs rfl o4 lh5 lh7 rfl rfl hk rfl rfl rfl rfl sz77 fun k8 w a hk o9 hs=>nx hK6 <| wp_ret ?_
 obtain rfl:=osi H
 exact fin hk _ [(aggI .i64 ([1779033703,3144134277,1013904242,2773480762,1359893119,2600822924,528734635,1541459225]:List Int))] rfl ⟨⟨_,rfl,run_loadA ag77 sz77 o9 lh7 hs (q:=1) rfl⟩,trivial⟩ ⟨rfl,lh7,(hs.pick [] rfl).dnil⟩
noncomputable def spec_NewHash.f  : Option (S_Hash) :=
  ((spec_l01Start.f).bind fun y4=>(some (⟨(y4.getD 0 0),(y4.getD 1 0),(y4.getD 2 0),(y4.getD 3 0),(y4.getD 4 0),(y4.getD 5 0),(y4.getD 6 0),(y4.getD 7 0),ByteArray.empty,0⟩:S_Hash)))
theorem spec_NewHash_t (w0:World)  (r:S_Hash) (H:spec_NewHash.f  = some r) :
    Calls Tryz.prog 52 #[] w0 (Ret (fun v w=>v = .agg #[vI iS r.H0,vI iS r.H1,vI iS r.H2,vI iS r.H3,vI iS r.H4,vI iS r.H5,vI iS r.H6,vI iS r.H7,vS r.Buf,vI iS r.N]∧Sat [] w0 w [] [])):=by
 have hs:=sat0 w0 [] (by simp)
 unfold spec_NewHash.f at H
 refine enter Tryz.func52 rfl Tryz.ntmps52 rfl fun a hk=>sr fun _ hK1=>salx 1 hs rfl hk rfl rfl ze79 rfl fun b2 w a hk hs=>nx hK1 <| sr fun _ hK3=>?_
 obtain ⟨y4,h5,H⟩:=bind_some H
 refine sc rfl en76 hk rfl rfl rfl (spec_l01Start_t _ _ h5) ?_
 rintro _ w ⟨rfl,lh6,hG⟩ a hk
 have hs:=hs.call0 hG
 have hk:=hk.re 1 (v':=.agg #[vI iS (y4.getD 0 0),vI iS (y4.getD 1 0),vI iS (y4.getD 2 0),vI iS (y4.getD 3 0),vI iS (y4.getD 4 0),vI iS (y4.getD 5 0),vI iS (y4.getD 6 0),vI iS (y4.getD 7 0)]) rfl (by exact aggI_lits lh6)
 refine sbd (pv:=[(0,(.agg #[vI iS (y4.getD 0 0),vI iS (y4.getD 1 0),vI iS (y4.getD 2 0),vI iS (y4.getD 3 0),vI iS (y4.getD 4 0),vI iS (y4.getD 5 0),vI iS (y4.getD 6 0),vI iS (y4.getD 7 0)]))]) rfl hk rfl rfl rfl (bd79_16 (y4.getD 0 0) (y4.getD 1 0) (y4.getD 2 0) (y4.getD 3 0) (y4.getD 4 0) (y4.getD 5 0) (y4.getD 6 0) (y4.getD 7 0)) fun a hk=>ssw 1 hs rfl rfl hk rfl rfl rfl rfl sz79 (by simp [Value.oneCell']) rfl fun w a hk hs=>nx hK3 <| wp_ret ?_
 obtain rfl:=osi H
 exact fin hk _ [(.agg #[vI iS (y4.getD 0 0),vI iS (y4.getD 1 0),vI iS (y4.getD 2 0),vI iS (y4.getD 3 0),vI iS (y4.getD 4 0),vI iS (y4.getD 5 0),vI iS (y4.getD 6 0),vI iS (y4.getD 7 0),vS ByteArray.empty,vI iS 0])] rfl ⟨⟨_,rfl,run_loadN ag79 sz79 (box_cells hs (k:=1) rfl)⟩,trivial⟩ ⟨rfl,(hs.pick [] rfl).dnil⟩
noncomputable def spec_l01Of.f (x0:ByteArray):Option (ByteArray) :=
  ((spec_NewHash.f).bind fun y3=>((spec_l01More.f y3 x0).bind fun y5=>((spec_l01Sum.f y5).bind fun y7=>(some y7))))
theorem spec_l01Of_t (w0:World) (x0:ByteArray) (r:ByteArray) (H:spec_l01Of.f x0=some r) :
    Calls Tryz.prog 27 #[vS x0] w0 (Ret (fun v w=>v=vS r∧Sat [] w0 w [] [])):=by
 have hs:=sat0 w0 [] (by simp)
 unfold spec_l01Of.f at H
 refine enter Tryz.func27 rfl Tryz.ntmps27 rfl fun a hk=>sr fun _ hK1=>mv hk rfl fun a hk=>nx hK1 <| sr fun _ hK2=>?_
 obtain ⟨y3,h4,H⟩:=bind_some H
 refine sc rfl en52 hk rfl rfl rfl (spec_NewHash_t _ _ h4) ?_
 rintro _ w ⟨rfl,hG⟩ a hk
 have hs:=hs.call0 hG
 refine mv hk rfl fun a hk=>?_
 obtain ⟨y5,h6,H⟩:=bind_some H
 refine sc rfl en51 hk rfl rfl rfl (spec_l01More_t _ y3 x0 _ h6) ?_
 rintro _ w ⟨rfl,hG⟩ a hk
 have hs:=hs.call0 hG
 obtain ⟨y7,h8,H⟩:=bind_some H
 refine sc rfl en50 hk rfl rfl rfl (spec_l01Sum_t _ y5 _ h8) ?_
 rintro _ w ⟨rfl,hG⟩ a hk
 have hs:=hs.call0 hG
 refine mv hk rfl fun a hk=>nx hK2 <| wp_ret ?_
 obtain rfl:=osi H
 exact fin hk _ [(vS y7)] rfl ⟨rfl,trivial⟩ ⟨rfl,(hs.pick [] rfl).dnil⟩
noncomputable def spec_l07Leaf.f (x0:Int) (x1:ByteArray):Option (ByteArray) :=
  (if (strOfNums ([0,(wR iB x0)])).size+x1.size≤1152921504606846976 then ((spec_l01Of.f ((strOfNums ([0,(wR iB x0)]))++x1)).bind fun y7=>(some y7)) else none)
theorem spec_l07Leaf_t (w0:World) (x0:Int) (x1:ByteArray) (r:ByteArray) (H:spec_l07Leaf.f x0 x1=some r) :
    Calls Tryz.prog 77 #[vI iS x0,vS x1] w0 (Ret (fun v w=>v=vS r∧Sat [] w0 w [] [])):=by
 have hs:=sat0 w0 [] (by simp)
 unfold spec_l07Leaf.f at H
 refine enter Tryz.func77 rfl Tryz.ntmps77 rfl fun a hk=>sr fun _ hK1=>mv hk rfl fun a hk=>nx hK1 <| sr fun _ hK2=>mv hk rfl fun a hk=>scn rfl hk rfl rfl rfl un5 un3 fun a hk=>sbs (L:=(Lay.int iB)) (pv:=[(0,(vI iB 0)),(1,(vI iB (wR iB x0)))]) (xs:=[0,(wR iB x0)]) (ess:=[[vI iB 0],[vI iB (wR iB x0)]]) 1 hs rfl hk rfl rfl rfl un101 (bs5_17 0 (wR iB x0)) (AllOwn.cons0 ⟨rfl,rfl⟩ (AllOwn.cons0 ⟨rfl,rfl⟩ AllOwn.nil)) rfl rfl rfl fun b3 k4 w a hk o5 hs=>sbt (xs:=([0,(wR iB x0)])) rfl hk rfl rfl rfl rfl un101 un5 un9 o5.view (hs.hasG (k:=1) rfl) fun a hk=>mv hk rfl fun a hk=>?_
 obtain ⟨c6,H⟩:=ite_no H
 refine ssa rfl hk rfl rfl rfl rfl c6 fun a hk=>?_
 obtain ⟨y7,h8,H⟩:=bind_some H
 refine sc rfl en27 hk rfl rfl rfl (spec_l01Of_t _ ((strOfNums ([0,(wR iB x0)]))++x1) _ h8) ?_
 rintro _ w ⟨rfl,hG⟩ a hk
 have hs:=hs.call0 hG
 refine mv hk rfl fun a hk=>nx hK2 <| wp_ret ?_
 obtain rfl:=osi H
 exact fin hk _ [(vS y7)] rfl ⟨rfl,trivial⟩ ⟨rfl,(hs.pick [] rfl).dnil⟩
noncomputable def spec_l07Leaves.s0 (l0:List ByteArray) (u15:List ByteArray) (u14:Int):Option (((List ByteArray)×Int) ⊕ Ex ((List ByteArray)) ((List ByteArray))) :=
  (bif (decide (u14<(l0.length:Int))) then (if 0≤u14∧u14<(l0.length:Int) then ((spec_l07Leaf.f u14 (l0.getD u14.toNat ByteArray.empty)).bind fun y41=>(if u15.length+([y41]).length≤1073741824 then (some (.inl ((u15++([y41])),(w64 (u14+1))))) else none)) else none) else (some (.inr (.out u15))))
noncomputable def spec_l07Leaves.f (l0:List ByteArray):Option ((List ByteArray)) :=
  ((loopO (fun s=>spec_l07Leaves.s0 l0 s.1 s.2) (([]:List ByteArray),0)).bind fun o=>match o with | .out u20=>(some u20) | .ret r=>(some r))
theorem spec_l07Leaves_t (w0:World) (A0_:Option Addr) (p0_:Nat) (l0:List ByteArray) (k0_:Chunk) (v0_:View Lay.str A0_ p0_ l0 k0_) (w0_:Has w0 k0_) (r:(List ByteArray)) (H:spec_l07Leaves.f l0=some r) :
    Calls Tryz.prog 53 #[vL A0_ l0.length p0_] w0 (Ret (fun v w=>∃ (A0:Option Addr) (p0:Nat) (k0:Chunk),v=vL A0 r.length p0∧Own Lay.str 9 A0 p0 r k0∧Sat [] w0 w [] [(0,k0)])):=by
 have hs:=sat0 w0 [(1,k0_)] (by simp only [List.mem_cons,List.not_mem_nil,or_false];rintro x (rfl) <;> assumption)
 unfold spec_l07Leaves.f at H
 refine enter Tryz.func53 rfl Tryz.ntmps53 rfl fun a hk=>sr fun _ hK1=>mv hk rfl fun a hk=>nx hK1 <| sr fun _ hK2=>sbs0 2 Lay.str hs rfl hk rfl rfl un25 sz9 fun b3 k4 w a hk o5 hs=>mv hk rfl fun a hk=>nx hK2 <| sq fun _ hK6=>sr fun _ hK7=>mv hk rfl fun a hk=>nx hK7 ?_
 obtain ⟨o25,h26,HL27⟩:=bind_some H
 clear H
 obtain ⟨R28,hR28⟩:=nm fun a w=>∃ (u20:List ByteArray) (A23:Option Addr) (p24:Nat) (k21:Chunk),o25 = .out u20∧Kn [(3,(vL A23 u20.length p24))] 22 a∧Sat [] w0 w [(1,k0_)] [(2,k21)]∧Own Lay.str 9 A23 p24 u20 k21
 refine wp_cutq R28 ?_ ?_
 ·refine wp_block ?_
  obtain ⟨fu30,h26⟩:=loopO_some h26
  obtain ⟨I29,hI29⟩:=nm fun fu a w=>∃ (u15:List ByteArray) (u14:Int) (A18:Option Addr) (p19:Nat) (k16:Chunk),loopN (fun s=>spec_l07Leaves.s0 l0 s.1 s.2) fu (u15,u14)=some o25∧Kn [(0,(vL A0_ l0.length p0_)),(3,(vL A18 u15.length p19)),(4,(vI iS u14))] 22 a∧Sat [] w0 w [(1,k0_)] [(2,k16)]∧Own Lay.str 9 A18 p19 u15 k16
  refine wp_loop_ghost I29 fu30 ?_ ?_
  ·rw [hI29]
   exact ⟨_,_,(some ⟨b3,0,none⟩),0,_,h26,(hk.al rfl),(hs.pick [(2,2)] rfl),o5⟩
  clear h26 hk hs
  intro fu30 a w hI0
  rw [hI29] at hI0
  obtain ⟨u15,u14,A18,p19,k16,hi,hk,hs,o17⟩:=hI0
  obtain ⟨x31,H,h32⟩:=loop_round hi
  try dsimp only at H
  unfold spec_l07Leaves.s0 at H
  refine sq fun _ hK33=>sr fun _ hK34=>mv hk rfl fun a hk=>mv hk rfl fun a hk=>sle rfl hk rfl rfl rfl un25 fun a hk=>sv (.bool (decide (u14<(l0.length:Int)))) hk rfl rfl rfl fun a hk=>nx hK34 ?_
  rcases cond_some H with ⟨c35,H⟩ | ⟨c35,H⟩
  ·have hk:=hk.lit 9 c35 rfl
   refine cnd_true hk rfl rfl <| wp_skip <| hK33 _ _ <| sq fun _ hK36=>wp_block ?_
   apply wp_region_lit
   refine mv hk rfl fun a hk=>mv hk rfl fun a hk=>mv hk rfl fun a hk=>mv hk rfl fun a hk=>?_
   obtain ⟨c37,H⟩:=ite_no H
   obtain ⟨b38,q39,hAc37⟩:=(v0_).some_ u14 c37.1 c37.2
   refine si rfl hk rfl rfl rfl rfl un25 sz9 c37.1 c37.2 hAc37 fun a hk=>?_
   obtain ⟨_,rfl,e40⟩:=(v0_).at_ ByteArray.empty u14 c37.1 c37.2
   refine sl (v:=(vS (l0.getD u14.toNat ByteArray.empty))) rfl hk rfl rfl rfl ag9 ((e40 0 _ rfl).cell (hs.hasD (k:=1) rfl)) fun a hk=>?_
   obtain ⟨y41,h42,H⟩:=bind_some H
   refine sc rfl en77 hk rfl rfl rfl (spec_l07Leaf_t _ u14 (l0.getD u14.toNat ByteArray.empty) _ h42) ?_
   rintro _ w ⟨rfl,hG⟩ a hk
   have hs:=hs.call0 hG
   refine sbs (L:=Lay.str) (pv:=[(0,(vS y41))]) (xs:=[y41]) (ess:=[[vS y41]]) 4 hs rfl hk rfl rfl rfl un25 (bs9_12 y41) (AllOwn.cons0 ⟨rfl,rfl⟩ AllOwn.nil) rfl rfl rfl fun b43 k44 w a hk o45 hs=>?_
   obtain ⟨c46,H⟩:=ite_no H
   refine sap 2 (xs:=u15) (ys:=[y41]) (flat_flat:(Lay.str).Flat) hs rfl o17 o45.view (hs.hasG (k:=4) rfl) rfl hk rfl rfl rfl rfl rfl rfl un25 mk9 rfl rfl rfl c46 fun A47 p48 k49 w a hk o50 hs=>mv hk rfl fun a hk=>nx hK36 ?_
   apply wp_region_lit
   refine mv hk rfl fun a hk=>sv (vI iS (w64 (u14+1))) hk rfl rfl rfl fun a hk=>mv hk rfl fun a hk=>?_
   show wpList _ _ _ [] _ _
   refine wpList_nil ?_
   obtain rfl:=osi H
   obtain ⟨m51,hmm51,h32⟩:=h32
   show ∃ n',n'<_∧I29 n' _ _
   refine ⟨m51,hmm51,?_⟩
   rw [hI29]
   exact ⟨_,_,A47,p48,_,h32,(hk.al rfl),(hs.pick [(2,2)] rfl),o50⟩
  have hk:=hk.lit 9 c35 rfl
  refine cnd_false hk rfl rfl <| wp_exit ?_
  obtain rfl:=osi H
  show R28 _ _
  rw [hR28]
  exact ⟨_,A18,p19,_,h32.symm,(hk.al rfl),(hs.pick [(2,2)] rfl),o17⟩
 intro a w hR0
 rw [hR28] at hR0
 obtain ⟨u20,A23,p24,k21,rfl,hk,hs,o22⟩:=hR0
 have H:=HL27
 try dsimp only at H
 refine hK6 _ _ <| sr fun _ hK52=>mv hk rfl fun a hk=>mv hk rfl fun a hk=>nx hK52 <| wp_ret ?_
 obtain rfl:=osi H
 exact fin hk _ [(vL A23 u20.length p24)] rfl ⟨rfl,trivial⟩ ⟨A23,p24,_,rfl,o22,(hs.pick [(0,2)] rfl).dnil⟩
noncomputable def spec_l07Join.f (x0:ByteArray) (x1:ByteArray):Option (ByteArray) :=
  (if (⟨#[1]⟩:ByteArray).size+x0.size≤1152921504606846976 then (if ((⟨#[1]⟩:ByteArray)++x0).size+x1.size≤1152921504606846976 then ((spec_l01Of.f (((⟨#[1]⟩:ByteArray)++x0)++x1)).bind fun y5=>(some y5)) else none) else none)
theorem spec_l07Join_t (w0:World) (x0:ByteArray) (x1:ByteArray) (r:ByteArray) (H:spec_l07Join.f x0 x1=some r) :
    Calls Tryz.prog 78 #[vS x0,vS x1] w0 (Ret (fun v w=>v=vS r∧Sat [] w0 w [] [])):=by
 have hs:=sat0 w0 [] (by simp)
 unfold spec_l07Join.f at H
 refine enter Tryz.func78 rfl Tryz.ntmps78 rfl fun a hk=>sr fun _ hK1=>mv hk rfl fun a hk=>nx hK1 <| sr fun _ hK2=>mv hk rfl fun a hk=>?_
 obtain ⟨c3,H⟩:=ite_no H
 refine ssa rfl hk rfl rfl rfl rfl c3 fun a hk=>mv hk rfl fun a hk=>?_
 obtain ⟨c4,H⟩:=ite_no H
 refine ssa rfl hk rfl rfl rfl rfl c4 fun a hk=>?_
 obtain ⟨y5,h6,H⟩:=bind_some H
 refine sc rfl en27 hk rfl rfl rfl (spec_l01Of_t _ (((⟨#[1]⟩:ByteArray)++x0)++x1) _ h6) ?_
 rintro _ w ⟨rfl,hG⟩ a hk
 have hs:=hs.call0 hG
 refine mv hk rfl fun a hk=>nx hK2 <| wp_ret ?_
 obtain rfl:=osi H
 exact fin hk _ [(vS y5)] rfl ⟨rfl,trivial⟩ ⟨rfl,(hs.pick [] rfl).dnil⟩
noncomputable def spec_l07Level.s0 (l0:List ByteArray) (u15:List ByteArray) (u14:Int):Option (((List ByteArray)×Int) ⊕ Ex ((List ByteArray)) ((List ByteArray))) :=
  (bif (decide ((w64 (u14+1))<(l0.length:Int))) then (if 0≤u14∧u14<(l0.length:Int) then (if 0≤(w64 (u14+1))∧(w64 (u14+1))<(l0.length:Int) then ((spec_l07Join.f (l0.getD u14.toNat ByteArray.empty) (l0.getD (w64 (u14+1)).toNat ByteArray.empty)).bind fun y46=>(if u15.length+([y46]).length≤1073741824 then (some (.inl ((u15++([y46])),(w64 (u14+2))))) else none)) else none) else none) else (some (.inr (.out u15))))
noncomputable def spec_l07Level.f (l0:List ByteArray):Option ((List ByteArray)) :=
  ((loopO (fun s=>spec_l07Level.s0 l0 s.1 s.2) (([]:List ByteArray),0)).bind fun o=>match o with | .out u20=>(some u20) | .ret r=>(some r))
theorem spec_l07Level_t (w0:World) (A0_:Option Addr) (p0_:Nat) (l0:List ByteArray) (k0_:Chunk) (v0_:View Lay.str A0_ p0_ l0 k0_) (w0_:Has w0 k0_) (r:(List ByteArray)) (H:spec_l07Level.f l0=some r) :
    Calls Tryz.prog 54 #[vL A0_ l0.length p0_] w0 (Ret (fun v w=>∃ (A0:Option Addr) (p0:Nat) (k0:Chunk),v=vL A0 r.length p0∧Own Lay.str 9 A0 p0 r k0∧Sat [] w0 w [] [(0,k0)])):=by
 have hs:=sat0 w0 [(1,k0_)] (by simp only [List.mem_cons,List.not_mem_nil,or_false];rintro x (rfl) <;> assumption)
 unfold spec_l07Level.f at H
 refine enter Tryz.func54 rfl Tryz.ntmps54 rfl fun a hk=>sr fun _ hK1=>mv hk rfl fun a hk=>nx hK1 <| sr fun _ hK2=>sbs0 2 Lay.str hs rfl hk rfl rfl un25 sz9 fun b3 k4 w a hk o5 hs=>mv hk rfl fun a hk=>nx hK2 <| sq fun _ hK6=>sr fun _ hK7=>mv hk rfl fun a hk=>nx hK7 ?_
 obtain ⟨o25,h26,HL27⟩:=bind_some H
 clear H
 obtain ⟨R28,hR28⟩:=nm fun a w=>∃ (u20:List ByteArray) (A23:Option Addr) (p24:Nat) (k21:Chunk),o25 = .out u20∧Kn [(3,(vL A23 u20.length p24))] 27 a∧Sat [] w0 w [(1,k0_)] [(2,k21)]∧Own Lay.str 9 A23 p24 u20 k21
 refine wp_cutq R28 ?_ ?_
 ·refine wp_block ?_
  obtain ⟨fu30,h26⟩:=loopO_some h26
  obtain ⟨I29,hI29⟩:=nm fun fu a w=>∃ (u15:List ByteArray) (u14:Int) (A18:Option Addr) (p19:Nat) (k16:Chunk),loopN (fun s=>spec_l07Level.s0 l0 s.1 s.2) fu (u15,u14)=some o25∧Kn [(0,(vL A0_ l0.length p0_)),(3,(vL A18 u15.length p19)),(4,(vI iS u14))] 27 a∧Sat [] w0 w [(1,k0_)] [(2,k16)]∧Own Lay.str 9 A18 p19 u15 k16
  refine wp_loop_ghost I29 fu30 ?_ ?_
  ·rw [hI29]
   exact ⟨_,_,(some ⟨b3,0,none⟩),0,_,h26,(hk.al rfl),(hs.pick [(2,2)] rfl),o5⟩
  clear h26 hk hs
  intro fu30 a w hI0
  rw [hI29] at hI0
  obtain ⟨u15,u14,A18,p19,k16,hi,hk,hs,o17⟩:=hI0
  obtain ⟨x31,H,h32⟩:=loop_round hi
  try dsimp only at H
  unfold spec_l07Level.s0 at H
  refine sq fun _ hK33=>sr fun _ hK34=>mv hk rfl fun a hk=>sv (vI iS (w64 (u14+1))) hk rfl rfl rfl fun a hk=>mv hk rfl fun a hk=>sle rfl hk rfl rfl rfl un25 fun a hk=>sv (.bool (decide ((w64 (u14+1))<(l0.length:Int)))) hk rfl rfl rfl fun a hk=>nx hK34 ?_
  rcases cond_some H with ⟨c35,H⟩ | ⟨c35,H⟩
  ·have hk:=hk.lit 10 c35 rfl
   refine cnd_true hk rfl rfl <| wp_skip <| hK33 _ _ <| sq fun _ hK36=>wp_block ?_
   refine wp_region_tree (.q 0 (.q 1 (.q 2 (.q 3 (.q 4 (.q 5 (.alt 6 (.alt 7 (.alt 8 (.alt 9 (.alt 10 (.alt 11 (.alt 12 (.last 13) .stop) .stop) .stop) .stop) .stop) .stop) .stop))))))) mo (by kernel_rfl) (hs.pick [] rfl) fun _=>?_
   have hs:=hs.drew
   refine tqm hk rfl fun a hk=>tqm hk rfl fun a hk=>tqm hk rfl fun a hk=>?_
   obtain ⟨c38,H⟩:=ite_no H
   obtain ⟨b39,q40,hAc38⟩:=(v0_).some_ u14 c38.1 c38.2
   refine tqst _ hk rfl rfl rfl rfl (fun w hs=>si rfl hk rfl rfl rfl rfl un25 sz9 c38.1 c38.2 hAc38 fun a hk=>qe hk) fun a hk=>?_
   obtain ⟨_,rfl,e41⟩:=(v0_).at_ ByteArray.empty u14 c38.1 c38.2
   refine tqst _ hk rfl rfl rfl rfl (fun w hs=>sl (v:=(vS (l0.getD u14.toNat ByteArray.empty))) rfl hk rfl rfl rfl ag9 ((e41 0 _ rfl).cell (hs.hasD (k:=1) rfl)) fun a hk=>qe hk) fun a hk=>tqm hk rfl fun a hk=>tss hs hk rfl rfl fun _ hK_r37_6 w hs=>mv hk rfl fun a hk=>se (hs.pick [] rfl) hk (hK_r37_6 _ _ ?_)
   refine tss hs hk rfl rfl fun _ hK_r37_7 w hs=>sv (vI iS (w64 (u14+1))) hk rfl rfl rfl fun a hk=>se (hs.pick [] rfl) hk (hK_r37_7 _ _ ?_)
   refine tss hs hk rfl rfl fun _ hK_r37_8 w hs=>?_
   obtain ⟨c42,H⟩:=ite_no H
   obtain ⟨b43,q44,hAc42⟩:=(v0_).some_ (w64 (u14+1)) c42.1 c42.2
   refine si rfl hk rfl rfl rfl rfl un25 sz9 c42.1 c42.2 hAc42 fun a hk=>se (hs.pick [] rfl) hk (hK_r37_8 _ _ ?_)
   refine tss hs hk rfl rfl fun _ hK_r37_9 w hs=>?_
   obtain ⟨_,rfl,e45⟩:=(v0_).at_ ByteArray.empty (w64 (u14+1)) c42.1 c42.2
   refine sl (v:=(vS (l0.getD (w64 (u14+1)).toNat ByteArray.empty))) rfl hk rfl rfl rfl ag9 ((e45 0 _ rfl).cell (hs.hasD (k:=1) rfl)) fun a hk=>se (hs.pick [] rfl) hk (hK_r37_9 _ _ ?_)
   refine tss hs hk rfl rfl fun _ hK_r37_10 w hs=>?_
   obtain ⟨y46,h47,H⟩:=bind_some H
   refine sc rfl en78 hk rfl rfl rfl (spec_l07Join_t _ (l0.getD u14.toNat ByteArray.empty) (l0.getD (w64 (u14+1)).toNat ByteArray.empty) _ h47) ?_
   rintro _ w ⟨rfl,hG⟩ a hk
   have hs:=hs.call0 hG
   refine se (hs.pick [] rfl) hk (hK_r37_10 _ _ ?_)
   refine tss hs hk rfl rfl fun _ hK_r37_11 w hs=>sbs (L:=Lay.str) (pv:=[(0,(vS y46))]) (xs:=[y46]) (ess:=[[vS y46]]) 5 hs rfl hk rfl rfl rfl un25 (bs9_12 y46) (AllOwn.cons0 ⟨rfl,rfl⟩ AllOwn.nil) rfl rfl rfl fun b48 k49 w a hk o50 hs=>se (hs.pick [] rfl) hk (hK_r37_11 _ _ ?_)
   refine tss hs hk rfl rfl fun _ hK_r37_12 w hs=>?_
   obtain ⟨c51,H⟩:=ite_no H
   refine sap 2 (xs:=u15) (ys:=[y46]) (flat_flat:(Lay.str).Flat) hs rfl o17 o50.view (hs.hasG (k:=5) rfl) rfl hk rfl rfl rfl rfl rfl rfl un25 mk9 rfl rfl rfl c51 fun A52 p53 k54 w a hk o55 hs=>se (hs.pick [] rfl) hk (hK_r37_12 _ _ ?_)
   refine tlst hk rfl rfl fun K_r37_13 hK_r37_13 w hF=>?_
   have hs:=hs.f hF
   refine mv hk rfl fun a hk=>se trivial hk (hK_r37_13 _ _ fun w hF=>?_)
   have hs:=hs.f hF
   refine hK36 _ _ ?_
   apply wp_region_lit
   refine mv hk rfl fun a hk=>sv (vI iS (w64 (u14+2))) hk rfl rfl rfl fun a hk=>mv hk rfl fun a hk=>?_
   show wpList _ _ _ [] _ _
   refine wpList_nil ?_
   obtain rfl:=osi H
   obtain ⟨m56,hmm56,h32⟩:=h32
   show ∃ n',n'<_∧I29 n' _ _
   refine ⟨m56,hmm56,?_⟩
   rw [hI29]
   exact ⟨_,_,A52,p53,_,h32,(hk.al rfl),(hs.pick [(2,2)] rfl),o55⟩
  have hk:=hk.lit 10 c35 rfl
  refine cnd_false hk rfl rfl <| wp_exit ?_
  obtain rfl:=osi H
  show R28 _ _
  rw [hR28]
  exact ⟨_,A18,p19,_,h32.symm,(hk.al rfl),(hs.pick [(2,2)] rfl),o17⟩
 intro a w hR0
 rw [hR28] at hR0
 obtain ⟨u20,A23,p24,k21,rfl,hk,hs,o22⟩:=hR0
 have H:=HL27
 try dsimp only at H
 refine hK6 _ _ <| sr fun _ hK57=>mv hk rfl fun a hk=>mv hk rfl fun a hk=>nx hK57 <| wp_ret ?_
 obtain rfl:=osi H
 exact fin hk _ [(vL A23 u20.length p24)] rfl ⟨rfl,trivial⟩ ⟨A23,p24,_,rfl,o22,(hs.pick [(0,2)] rfl).dnil⟩
noncomputable def spec_l07Root.s0  (u16:List ByteArray):Option (((List ByteArray)) ⊕ Ex ((List ByteArray)) (ByteArray)) :=
  (bif (decide ((u16.length:Int)>1)) then ((spec_l07Level.f u16).bind fun y37=>(some (.inl y37))) else (some (.inr (.out u16))))
noncomputable def spec_l07Root.f (l0:List ByteArray):Option (ByteArray) :=
  ((spec_l07Leaves.f l0).bind fun y3=>((loopO (fun s=>spec_l07Root.s0  s) y3).bind fun o=>match o with | .out u21=>(if 0≤(0:Int)∧(0:Int)<(u21.length:Int) then (some (u21.getD (0:Int).toNat ByteArray.empty)) else none) | .ret r=>(some r)))
theorem spec_l07Root_t (w0:World) (A0_:Option Addr) (p0_:Nat) (l0:List ByteArray) (k0_:Chunk) (v0_:View Lay.str A0_ p0_ l0 k0_) (w0_:Has w0 k0_) (r:ByteArray) (H:spec_l07Root.f l0=some r) :
    Calls Tryz.prog 28 #[vL A0_ l0.length p0_] w0 (Ret (fun v w=>v=vS r∧Sat [] w0 w [] [])):=by
 have hs:=sat0 w0 [(1,k0_)] (by simp only [List.mem_cons,List.not_mem_nil,or_false];rintro x (rfl) <;> assumption)
 unfold spec_l07Root.f at H
 refine enter Tryz.func28 rfl Tryz.ntmps28 rfl fun a hk=>sr fun _ hK1=>mv hk rfl fun a hk=>nx hK1 <| sr fun _ hK2=>mv hk rfl fun a hk=>?_
 obtain ⟨y3,h4,H⟩:=bind_some H
 refine sc rfl en53 hk rfl rfl rfl (spec_l07Leaves_t _ A0_ p0_ l0 _ v0_ (hs.hasD (k:=1) rfl) _ h4) ?_
 rintro _ w ⟨A5,p6,k7,rfl,o8,hG⟩ a hk
 have hs:=hs.call0k hG [2] rfl
 refine mv hk rfl fun a hk=>nx hK2 <| sq fun _ hK9=>?_
 obtain ⟨o26,h27,HL28⟩:=bind_some H
 clear H
 obtain ⟨R29,hR29⟩:=nm fun a w=>∃ (u21:List ByteArray) (A24:Option Addr) (p25:Nat) (k22:Chunk),o26 = .out u21∧Kn [(3,(vL A24 u21.length p25))] 14 a∧Sat [] w0 w [(1,k0_)] [(2,k22)]∧Own Lay.str 9 A24 p25 u21 k22
 refine wp_cutq R29 ?_ ?_
 ·refine wp_block ?_
  obtain ⟨fu31,h27⟩:=loopO_some h27
  obtain ⟨I30,hI30⟩:=nm fun fu a w=>∃ (u16:List ByteArray) (A19:Option Addr) (p20:Nat) (k17:Chunk),loopN (fun s=>spec_l07Root.s0  s) fu u16=some o26∧Kn [(3,(vL A19 u16.length p20))] 14 a∧Sat [] w0 w [(1,k0_)] [(2,k17)]∧Own Lay.str 9 A19 p20 u16 k17
  refine wp_loop_ghost I30 fu31 ?_ ?_
  ·rw [hI30]
   exact ⟨_,A5,p6,_,h27,(hk.al rfl),(hs.pick [(2,2)] rfl),o8⟩
  clear h27 hk hs
  intro fu31 a w hI0
  rw [hI30] at hI0
  obtain ⟨u16,A19,p20,k17,hi,hk,hs,o18⟩:=hI0
  obtain ⟨x32,H,h33⟩:=loop_round hi
  try dsimp only at H
  unfold spec_l07Root.s0 at H
  refine sq fun _ hK34=>sr fun _ hK35=>mv hk rfl fun a hk=>sle rfl hk rfl rfl rfl un25 fun a hk=>sv (.bool (decide ((u16.length:Int)>1))) hk rfl rfl rfl fun a hk=>nx hK35 ?_
  rcases cond_some H with ⟨c36,H⟩ | ⟨c36,H⟩
  ·have hk:=hk.lit 8 c36 rfl
   refine cnd_true hk rfl rfl <| wp_skip <| hK34 _ _ <| wp_block ?_
   apply wp_region_lit
   refine mv hk rfl fun a hk=>?_
   obtain ⟨y37,h38,H⟩:=bind_some H
   refine sc rfl en54 hk rfl rfl rfl (spec_l07Level_t _ A19 p20 u16 _ o18.view (hs.hasG (k:=2) rfl) _ h38) ?_
   rintro _ w ⟨A39,p40,k41,rfl,o42,hG⟩ a hk
   have hs:=hs.call0k hG [4] rfl
   refine mv hk rfl fun a hk=>?_
   show wpList _ _ _ [] _ _
   refine wpList_nil ?_
   obtain rfl:=osi H
   obtain ⟨m43,hmm43,h33⟩:=h33
   show ∃ n',n'<_∧I30 n' _ _
   refine ⟨m43,hmm43,?_⟩
   rw [hI30]
   exact ⟨_,A39,p40,_,h33,(hk.al rfl),(hs.pick [(2,4)] rfl),o42⟩
  have hk:=hk.lit 8 c36 rfl
  refine cnd_false hk rfl rfl <| wp_exit ?_
  obtain rfl:=osi H
  show R29 _ _
  rw [hR29]
  exact ⟨_,A19,p20,_,h33.symm,(hk.al rfl),(hs.pick [(2,2)] rfl),o18⟩
 intro a w hR0
 rw [hR29] at hR0
 obtain ⟨u21,A24,p25,k22,rfl,hk,hs,o23⟩:=hR0
 have H:=HL28
 try dsimp only at H
 refine hK9 _ _ <| sr fun _ hK44=>mv hk rfl fun a hk=>?_
 obtain ⟨c45,H⟩:=ite_no H
 obtain ⟨b46,q47,hAc45⟩:=(o23.view).some_ (0:Int) c45.1 c45.2
 refine si rfl hk rfl rfl rfl rfl un25 sz9 c45.1 c45.2 hAc45 fun a hk=>?_
 obtain ⟨_,rfl,e48⟩:=(o23.view).at_ ByteArray.empty (0:Int) c45.1 c45.2
 refine sl (v:=(vS (u21.getD (0:Int).toNat ByteArray.empty))) rfl hk rfl rfl rfl ag9 ((e48 0 _ rfl).cell (hs.hasG (k:=2) rfl)) fun a hk=>mv hk rfl fun a hk=>nx hK44 <| wp_ret ?_
 obtain rfl:=osi H
 exact fin hk _ [(vS (u21.getD (0:Int).toNat ByteArray.empty))] rfl ⟨rfl,trivial⟩ ⟨rfl,(hs.pick [] rfl).dnil⟩
noncomputable def spec_l05Sync.s0 (x0:S_Device) (u21:Int) (u22:List ByteArray):Option ((Int×(List ByteArray)) ⊕ Ex ((List ByteArray)) (S_Device)) :=
  (bif (decide (u21<(x0.Unsure.length:Int))) then (if 0≤u21∧u21<(x0.Unsure.length:Int) then (if 0≤u21∧u21<(x0.Unsure.length:Int) then (if 0≤((x0.Unsure.getD u21.toNat z_Io).At)∧((x0.Unsure.getD u21.toNat z_Io).At)<((([]:List ByteArray)++x0.Sure).length:Int) then (some (.inl ((w64 (u21+1)),(u22.set ((x0.Unsure.getD u21.toNat z_Io).At).toNat ((x0.Unsure.getD u21.toNat z_Io).Data))))) else none) else none) else none) else (some (.inr (.out u22))))
noncomputable def spec_l05Sync.f (x0:S_Device):Option (S_Device) :=
  (if ([]:List ByteArray).length+x0.Sure.length≤1073741824 then ((loopO (fun s=>spec_l05Sync.s0 x0 s.1 s.2) (0,(([]:List ByteArray)++x0.Sure))).bind fun o=>match o with | .out u26=>(some (⟨u26,([]:List S_Io)⟩:S_Device)) | .ret r=>(some r)) else none)
theorem spec_l05Sync_t (w0:World) (x0:S_Device) (A0_0:Option Addr) (p0_0:Nat) (k0_0:Chunk) (v0_0:View Lay.str A0_0 p0_0 x0.Sure k0_0) (w0_0:Has w0 k0_0) (A0_1:Option Addr) (p0_1:Nat) (k0_1:Chunk) (v0_1:View L_Io A0_1 p0_1 x0.Unsure k0_1) (w0_1:Has w0 k0_1) (r:S_Device) (H:spec_l05Sync.f x0=some r) :
    Calls Tryz.prog 29 #[.agg #[vL A0_0 x0.Sure.length p0_0,vL A0_1 x0.Unsure.length p0_1]] w0 (Ret (fun v w=>∃ (A0:Option Addr) (p0:Nat) (k0:Chunk),∃ (A1:Option Addr) (p1:Nat) (k1:Chunk),v = .agg #[vL A0 r.Sure.length p0,vL A1 r.Unsure.length p1]∧Own Lay.str 9 A0 p0 r.Sure k0∧Own L_Io 84 A1 p1 r.Unsure k1∧Sat [] w0 w [] [(0,k0),(1,k1)])):=by
 have hs:=sat0 w0 [(1,k0_0),(2,k0_1)] (by simp only [List.mem_cons,List.not_mem_nil,or_false];rintro x (rfl | rfl) <;> assumption)
 unfold spec_l05Sync.f at H
 refine enter Tryz.func29 rfl Tryz.ntmps29 rfl fun a hk=>sr fun _ hK1=>sbx 3 hs rfl hk rfl rfl rfl rfl fun b2 w a hk hs=>salx 4 hs rfl hk rfl rfl ze28 rfl fun b3 w a hk hs=>nx hK1 <| sr fun _ hK4=>sbs0 5 Lay.str hs rfl hk rfl rfl un25 sz9 fun b5 k6 w a hk o7 hs=>sf ⟨b2,0,none⟩ rfl hk rfl rfl rfl fd28_0 rfl fun a hk=>sl rfl hk rfl rfl rfl ag25 (box_cell hs (k:=3) rfl rfl) fun a hk=>?_
 obtain ⟨c8,H⟩:=ite_no H
 refine sap 5 (xs:=([]:List ByteArray)) (ys:=x0.Sure) (flat_flat:(Lay.str).Flat) hs rfl o7 v0_0 (hs.hasD (k:=1) rfl) rfl hk rfl rfl rfl rfl rfl rfl un25 mk9 rfl rfl rfl c8 fun A9 p10 k11 w a hk o12 hs=>sbs0 6 L_Io hs rfl hk rfl rfl un26 sz84 fun b13 k14 w a hk o15 hs=>sbd (pv:=[(0,(vL A9 (([]:List ByteArray)++x0.Sure).length p10)),(1,(vL (some ⟨b13,0,none⟩) 0 0))]) rfl hk rfl rfl rfl (bd28_18 A9 ((([]:List ByteArray)++x0.Sure).length) p10 (some ⟨b13,0,none⟩) 0 0) fun a hk=>salx 7 hs rfl hk rfl rfl ze28 rfl fun b16 w a hk hs=>ssw 7 hs rfl rfl hk rfl rfl rfl rfl sz28 (by simp [Value.oneCell']) rfl fun w a hk hs=>nx hK4 <| sq fun _ hK17=>sr fun _ hK18=>mv hk rfl fun a hk=>nx hK18 ?_
 obtain ⟨o30,h31,HL32⟩:=bind_some H
 clear H
 obtain ⟨R33,hR33⟩:=nm fun a w=>∃ (u26:List ByteArray) (k27:Chunk),o30 = .out u26∧Kn [(2,(vP (some ⟨b3,0,none⟩))),(3,(vP (some ⟨b16,0,none⟩)))] 34 a∧Sat [] w0 w [(1,k0_0),(2,k0_1)] [(4,[(b3,.cells #[vL none 0 0,vL none 0 0] 28 (0,0))]),(7,[(b16,.cells #[vL A9 (([]:List ByteArray)++x0.Sure).length p10,vL (some ⟨b13,0,none⟩) 0 0] 28 (0,0))]),(5,k27),(6,k14)]∧Own Lay.str 9 A9 p10 u26 k27∧u26.length=(([]:List ByteArray)++x0.Sure).length
 refine wp_cutq R33 ?_ ?_
 ·refine wp_block ?_
  obtain ⟨fu35,h31⟩:=loopO_some h31
  obtain ⟨I34,hI34⟩:=nm fun fu a w=>∃ (u21:Int) (u22:List ByteArray) (k23:Chunk),loopN (fun s=>spec_l05Sync.s0 x0 s.1 s.2) fu (u21,u22)=some o30∧Kn [(1,(vP (some ⟨b2,0,none⟩))),(2,(vP (some ⟨b3,0,none⟩))),(3,(vP (some ⟨b16,0,none⟩))),(4,(vI iS u21))] 34 a∧Sat [] w0 w [(1,k0_0),(2,k0_1)] [(3,[(b2,.cells #[vL A0_0 x0.Sure.length p0_0,vL A0_1 x0.Unsure.length p0_1] 28 (0,0))]),(4,[(b3,.cells #[vL none 0 0,vL none 0 0] 28 (0,0))]),(7,[(b16,.cells #[vL A9 (([]:List ByteArray)++x0.Sure).length p10,vL (some ⟨b13,0,none⟩) 0 0] 28 (0,0))]),(5,k23),(6,k14)]∧Own Lay.str 9 A9 p10 u22 k23∧u22.length=(([]:List ByteArray)++x0.Sure).length
  refine wp_loop_ghost I34 fu35 ?_ ?_
  ·rw [hI34]
   exact ⟨_,_,_,h31,(hk.al rfl),(hs.pick [(3,3),(4,4),(7,7),(5,5),(6,6)] rfl),o12,rfl⟩
  clear h31 hk hs
  intro fu35 a w hI0
  rw [hI34] at hI0
  obtain ⟨u21,u22,k23,hi,hk,hs,o24,lh25⟩:=hI0
  obtain ⟨x36,H,h37⟩:=loop_round hi
  try dsimp only at H
  unfold spec_l05Sync.s0 at H
  refine sq fun _ hK38=>sr fun _ hK39=>mv hk rfl fun a hk=>sf ⟨b2,1,none⟩ rfl hk rfl rfl rfl fd28_1 rfl fun a hk=>sl rfl hk rfl rfl rfl ag26 (box_cell hs (k:=3) rfl rfl) fun a hk=>sle rfl hk rfl rfl rfl un26 fun a hk=>sv (.bool (decide (u21<(x0.Unsure.length:Int)))) hk rfl rfl rfl fun a hk=>nx hK39 ?_
  rcases cond_some H with ⟨c40,H⟩ | ⟨c40,H⟩
  ·have hk:=hk.lit 15 c40 rfl
   refine cnd_true hk rfl rfl <| wp_skip <| hK38 _ _ <| sq fun _ hK41=>wp_block ?_
   refine wp_region_tree (.q 0 (.q 1 (.q 2 (.q 3 (.q 4 (.q 5 (.q 6 (.q 7 (.q 8 (.q 9 (.alt 10 (.alt 11 (.alt 12 (.alt 13 (.alt 14 (.last 15) .stop) .stop) .stop) .stop) .stop))))))))))) mo (by kernel_rfl) (hs.pick [(3,3),(4,4),(7,7),(5,5),(6,6)] rfl) fun _=>?_
   have hs:=hs.drew
   refine tqst _ hk rfl rfl rfl rfl (fun w hs=>sf ⟨b16,0,none⟩ rfl hk rfl rfl rfl fd28_0 rfl fun a hk=>qe hk) fun a hk=>tqst _ hk rfl rfl rfl rfl (fun w hs=>sl rfl hk rfl rfl rfl ag25 (box_cell hs (k:=7) rfl rfl) fun a hk=>qe hk) fun a hk=>tqst _ hk rfl rfl rfl rfl (fun w hs=>sf ⟨b2,1,none⟩ rfl hk rfl rfl rfl fd28_1 rfl fun a hk=>qe hk) fun a hk=>tqst _ hk rfl rfl rfl rfl (fun w hs=>sl rfl hk rfl rfl rfl ag26 (box_cell hs (k:=3) rfl rfl) fun a hk=>qe hk) fun a hk=>tqm hk rfl fun a hk=>?_
   obtain ⟨c43,H⟩:=ite_no H
   obtain ⟨b44,q45,hAc43⟩:=(v0_1).some_ u21 c43.1 c43.2
   refine tqst _ hk rfl rfl rfl rfl (fun w hs=>si rfl hk rfl rfl rfl rfl un26 sz84 c43.1 c43.2 hAc43 fun a hk=>qe hk) fun a hk=>tqst _ hk rfl rfl rfl rfl (fun w hs=>sf (padd A0_1 (u21.toNat*2+0)) rfl hk rfl rfl rfl fd84_0 (padd_add _ _ _) fun a hk=>qe hk) fun a hk=>?_
   obtain ⟨_,rfl,e46⟩:=(v0_1).at_ z_Io u21 c43.1 c43.2
   refine tqst _ hk rfl rfl rfl rfl (fun w hs=>sl (v:=(vI iS ((x0.Unsure.getD u21.toNat z_Io).At))) rfl hk rfl rfl rfl ag3 ((e46 0 _ rfl).cell (hs.hasD (k:=2) rfl)) fun a hk=>qe hk) fun a hk=>tqst _ hk rfl rfl rfl rfl (fun w hs=>sf ⟨b2,1,none⟩ rfl hk rfl rfl rfl fd28_1 rfl fun a hk=>qe hk) fun a hk=>tqst _ hk rfl rfl rfl rfl (fun w hs=>sl rfl hk rfl rfl rfl ag26 (box_cell hs (k:=3) rfl rfl) fun a hk=>qe hk) fun a hk=>tss hs hk rfl rfl fun _ hK_r42_10 w hs=>mv hk rfl fun a hk=>se (hs.pick [(3,3),(4,4),(7,7),(5,5),(6,6)] rfl) hk (hK_r42_10 _ _ ?_)
   refine tss hs hk rfl rfl fun _ hK_r42_11 w hs=>?_
   obtain ⟨c47,H⟩:=ite_no H
   obtain ⟨b48,q49,hAc47⟩:=(v0_1).some_ u21 c47.1 c47.2
   refine si rfl hk rfl rfl rfl rfl un26 sz84 c47.1 c47.2 hAc47 fun a hk=>se (hs.pick [(3,3),(4,4),(7,7),(5,5),(6,6)] rfl) hk (hK_r42_11 _ _ ?_)
   refine tss hs hk rfl rfl fun _ hK_r42_12 w hs=>sf (padd A0_1 (u21.toNat*2+1)) rfl hk rfl rfl rfl fd84_1 (padd_add _ _ _) fun a hk=>se (hs.pick [(3,3),(4,4),(7,7),(5,5),(6,6)] rfl) hk (hK_r42_12 _ _ ?_)
   refine tss hs hk rfl rfl fun _ hK_r42_13 w hs=>?_
   obtain ⟨_,rfl,e50⟩:=(v0_1).at_ z_Io u21 c47.1 c47.2
   refine sl (v:=(vS ((x0.Unsure.getD u21.toNat z_Io).Data))) rfl hk rfl rfl rfl ag9 ((e50 1 _ rfl).cell (hs.hasD (k:=2) rfl)) fun a hk=>se (hs.pick [(3,3),(4,4),(7,7),(5,5),(6,6)] rfl) hk (hK_r42_13 _ _ ?_)
   refine tss hs hk rfl rfl fun _ hK_r42_14 w hs=>?_
   obtain ⟨c51,H⟩:=ite_no H
   obtain ⟨b52,q53,hAc51⟩:=(o24.view).some_ ((x0.Unsure.getD u21.toNat z_Io).At) c51.1 (by rw [lh25];exact c51.2)
   refine si rfl hk rfl rfl rfl rfl un25 sz9 c51.1 c51.2 hAc51 fun a hk=>se (hs.pick [(3,3),(4,4),(7,7),(5,5),(6,6)] rfl) hk (hK_r42_14 _ _ ?_)
   refine tlst hk rfl rfl fun K_r42_15 hK_r42_15 w hF=>?_
   have hs:=hs.f hF
   refine so (j:=0) 5 ByteArray.empty ((x0.Unsure.getD u21.toNat z_Io).Data) hs rfl o24 c51.1 (by rw [lh25];exact c51.2) rfl hk rfl rfl rfl rfl rfl sz9 (by simp [Value.cells,Value.oneCell']) (Nat.le_of_ble_eq_true rfl) (fun _ _ h=>⟨by rw [h.1];rfl,h.2⟩) fun k54 w a hk o55 hs=>?_
   have lh56:(u22.set ((x0.Unsure.getD u21.toNat z_Io).At).toNat ((x0.Unsure.getD u21.toNat z_Io).Data)).length=(([]:List ByteArray)++x0.Sure).length:=by rw [List.length_set];exact lh25
   refine se trivial hk (hK_r42_15 _ _ fun w hF=>?_)
   have hs:=hs.f hF
   refine hK41 _ _ ?_
   apply wp_region_lit
   refine mv hk rfl fun a hk=>sv (vI iS (w64 (u21+1))) hk rfl rfl rfl fun a hk=>mv hk rfl fun a hk=>?_
   show wpList _ _ _ [] _ _
   refine wpList_nil ?_
   obtain rfl:=osi H
   obtain ⟨m57,hmm57,h37⟩:=h37
   show ∃ n',n'<_∧I34 n' _ _
   refine ⟨m57,hmm57,?_⟩
   rw [hI34]
   exact ⟨_,_,_,h37,(hk.al rfl),(hs.pick [(3,3),(4,4),(7,7),(5,5),(6,6)] rfl),o55,lh56⟩
  have hk:=hk.lit 15 c40 rfl
  refine cnd_false hk rfl rfl <| wp_exit ?_
  obtain rfl:=osi H
  show R33 _ _
  rw [hR33]
  exact ⟨_,_,h37.symm,(hk.al rfl),(hs.pick [(4,4),(7,7),(5,5),(6,6)] rfl),o24,lh25⟩
 intro a w hR0
 rw [hR33] at hR0
 obtain ⟨u26,k27,rfl,hk,hs,o28,lh29⟩:=hR0
 have H:=HL32
 try dsimp only at H
 refine hK17 _ _ <| sr fun _ hK58=>sln [vL A9 (([]:List ByteArray)++x0.Sure).length p10,vL (some ⟨b13,0,none⟩) 0 0] rfl hk rfl rfl rfl ag28 sz28 (box_cells hs (k:=7) rfl) fun a hk=>ssw 4 hs rfl rfl hk rfl rfl rfl rfl sz28 (by simp [Value.oneCell']) rfl fun w a hk hs=>nx hK58 <| wp_ret ?_
 obtain rfl:=osi H
 exact fin hk _ [(.agg #[vL A9 (([]:List ByteArray)++x0.Sure).length p10,vL (some ⟨b13,0,none⟩) 0 0])] rfl ⟨⟨_,rfl,run_loadN ag28 sz28 (box_cells hs (k:=4) rfl)⟩,trivial⟩ ⟨A9,p10,_,(some ⟨b13,0,none⟩),0,_,(by first | (rw [lh29];done) | (rw [lh29];rfl)),o28,o15,(hs.pick [(0,5),(1,6)] rfl).dnil⟩
noncomputable def spec_l05Write.f (x0:S_Device) (x1:Int) (x2:ByteArray):Option (S_Device) :=
  (if ([]:List S_Io).length+x0.Unsure.length≤1073741824 then (if (([]:List S_Io)++x0.Unsure).length+([(⟨x1,x2⟩:S_Io)]).length≤1073741824 then (some (⟨x0.Sure,((([]:List S_Io)++x0.Unsure)++([(⟨x1,x2⟩:S_Io)]))⟩:S_Device)) else none) else none)
theorem spec_l05Write_t (w0:World) (x0:S_Device) (A0_0:Option Addr) (p0_0:Nat) (k0_0:Chunk) (v0_0:View Lay.str A0_0 p0_0 x0.Sure k0_0) (w0_0:Has w0 k0_0) (A0_1:Option Addr) (p0_1:Nat) (k0_1:Chunk) (v0_1:View L_Io A0_1 p0_1 x0.Unsure k0_1) (w0_1:Has w0 k0_1) (x1:Int) (x2:ByteArray) (r:S_Device) (H:spec_l05Write.f x0 x1 x2=some r) :
    Calls Tryz.prog 55 #[.agg #[vL A0_0 x0.Sure.length p0_0,vL A0_1 x0.Unsure.length p0_1],vI iS x1,vS x2] w0 (Ret (fun v w=>∃ (A0:Option Addr) (p0:Nat),∃ (A1:Option Addr) (p1:Nat) (k1:Chunk),∃ (kS:Chunk),v = .agg #[vL A0 r.Sure.length p0,vL A1 r.Unsure.length p1]∧View Lay.str A0 p0 r.Sure (k0_0++kS)∧Own L_Io 84 A1 p1 r.Unsure k1∧Sat [] w0 w [] [(0,k1),(1,kS)])):=by
 have hs:=sat0 w0 [(1,k0_0),(2,k0_1)] (by simp only [List.mem_cons,List.not_mem_nil,or_false];rintro x (rfl | rfl) <;> assumption)
 unfold spec_l05Write.f at H
 refine enter Tryz.func55 rfl Tryz.ntmps55 rfl fun a hk=>sr fun _ hK1=>sbx 3 hs rfl hk rfl rfl rfl rfl fun b2 w a hk hs=>salx 4 hs rfl hk rfl rfl ze28 rfl fun b3 w a hk hs=>nx hK1 <| sr fun _ hK4=>sbs0 5 L_Io hs rfl hk rfl rfl un26 sz84 fun b5 k6 w a hk o7 hs=>sf ⟨b2,1,none⟩ rfl hk rfl rfl rfl fd28_1 rfl fun a hk=>sl rfl hk rfl rfl rfl ag26 (box_cell hs (k:=3) rfl rfl) fun a hk=>?_
 obtain ⟨c8,H⟩:=ite_no H
 refine sap 5 (xs:=([]:List S_Io)) (ys:=x0.Unsure) (flat_flat:(L_Io).Flat) hs rfl o7 v0_1 (hs.hasD (k:=2) rfl) rfl hk rfl rfl rfl rfl rfl rfl un26 mk84 rfl rfl rfl c8 fun A9 p10 k11 w a hk o12 hs=>mv hk rfl fun a hk=>mv hk rfl fun a hk=>sbd (pv:=[(0,(vI iS x1)),(1,(vS x2))]) rfl hk rfl rfl rfl (bd84_19 x1 x2) fun a hk=>sbs (L:=L_Io) (pv:=[(0,(.agg #[vI iS x1,vS x2]))]) (xs:=[(⟨x1,x2⟩:S_Io)]) (ess:=[[vI iS x1,vS x2]]) 6 hs rfl hk rfl rfl rfl un26 (bs84_20 x1 x2) (AllOwn.cons0 ⟨rfl,rfl⟩ AllOwn.nil) rfl rfl rfl fun b13 k14 w a hk o15 hs=>?_
 obtain ⟨c16,H⟩:=ite_no H
 refine sap 5 (xs:=(([]:List S_Io)++x0.Unsure)) (ys:=[(⟨x1,x2⟩:S_Io)]) (flat_flat:(L_Io).Flat) hs rfl o12 o15.view (hs.hasG (k:=6) rfl) rfl hk rfl rfl rfl rfl rfl rfl un26 mk84 rfl rfl rfl c16 fun A17 p18 k19 w a hk o20 hs=>sf ⟨b2,1,none⟩ rfl hk rfl rfl rfl fd28_1 rfl fun a hk=>ssx (cs':=#[vL A0_0 x0.Sure.length p0_0,vL A17 ((([]:List S_Io)++x0.Unsure)++([(⟨x1,x2⟩:S_Io)])).length p18]) 3 hs rfl rfl hk rfl rfl rfl rfl sz26 rfl rfl rfl rfl fun w a hk hs=>nx hK4 <| sr fun _ hK21=>sln [vL A0_0 x0.Sure.length p0_0,vL A17 ((([]:List S_Io)++x0.Unsure)++([(⟨x1,x2⟩:S_Io)])).length p18] rfl hk rfl rfl rfl ag28 sz28 (box_cells hs (k:=3) rfl) fun a hk=>ssw 4 hs rfl rfl hk rfl rfl rfl rfl sz28 (by simp [Value.oneCell']) rfl fun w a hk hs=>nx hK21 <| wp_ret ?_
 obtain rfl:=osi H
 exact fin hk _ [(.agg #[vL A0_0 x0.Sure.length p0_0,vL A17 ((([]:List S_Io)++x0.Unsure)++([(⟨x1,x2⟩:S_Io)])).length p18])] rfl ⟨⟨_,rfl,run_loadN ag28 sz28 (box_cells hs (k:=4) rfl)⟩,trivial⟩ ⟨A0_0,p0_0,A17,p18,_,_,rfl,(v0_0).sub (Sub.l _ (Sub.refl _)),o20,((hs.addNil 3000).pick [(0,5),(1,3000)] rfl).dnil⟩
noncomputable def spec_l13Lay.s0 (x1:Int) (l2:List ByteArray) (u8:Int) (u9:List ByteArray) (u13:List S_Io):Option ((Int×(List ByteArray)×(List S_Io)) ⊕ Ex ((List ByteArray)×(List S_Io)) (S_Device)) :=
  (bif (decide (u8<(l2.length:Int))) then (if 0≤u8∧u8<(l2.length:Int) then ((spec_l05Write.f (⟨u9,u13⟩:S_Device) (w64 ((w64 (16*x1))+u8)) (l2.getD u8.toNat ByteArray.empty)).bind fun y42=>(some (.inl ((w64 (u8+1)),y42.Sure,y42.Unsure)))) else none) else (some (.inr (.out (u9,u13)))))
noncomputable def spec_l13Lay.f (x0:S_Device) (x1:Int) (l2:List ByteArray):Option (S_Device) :=
  ((loopO (fun s=>spec_l13Lay.s0 x1 l2 s.1 s.2.1 s.2.2) (0,x0.Sure,x0.Unsure)).bind fun o=>match o with | .out (u17,u21)=>(some (⟨u17,u21⟩:S_Device)) | .ret r=>(some r))
theorem spec_l13Lay_t (w0:World) (x0:S_Device) (A0_0:Option Addr) (p0_0:Nat) (k0_0:Chunk) (v0_0:View Lay.str A0_0 p0_0 x0.Sure k0_0) (w0_0:Has w0 k0_0) (A0_1:Option Addr) (p0_1:Nat) (k0_1:Chunk) (v0_1:View L_Io A0_1 p0_1 x0.Unsure k0_1) (w0_1:Has w0 k0_1) (x1:Int) (A2_:Option Addr) (p2_:Nat) (l2:List ByteArray) (k2_:Chunk) (v2_:View Lay.str A2_ p2_ l2 k2_) (w2_:Has w0 k2_) (r:S_Device) (H:spec_l13Lay.f x0 x1 l2=some r) :
    Calls Tryz.prog 30 #[.agg #[vL A0_0 x0.Sure.length p0_0,vL A0_1 x0.Unsure.length p0_1],vI iS x1,vL A2_ l2.length p2_] w0 (Ret (fun v w=>∃ (A0:Option Addr) (p0:Nat),∃ (A1:Option Addr) (p1:Nat),∃ (kS:Chunk),v = .agg #[vL A0 r.Sure.length p0,vL A1 r.Unsure.length p1]∧View Lay.str A0 p0 r.Sure (k0_0++(k0_1++(k2_++kS)))∧View L_Io A1 p1 r.Unsure (k0_0++(k0_1++(k2_++kS)))∧Sat [] w0 w [] [(0,kS)])):=by
 have hs:=sat0 w0 [(1,k0_0),(2,k0_1),(3,k2_)] (by simp only [List.mem_cons,List.not_mem_nil,or_false];rintro x (rfl | rfl | rfl) <;> assumption)
 unfold spec_l13Lay.f at H
 refine enter Tryz.func30 rfl Tryz.ntmps30 rfl fun a hk=>sr fun _ hK1=>sbx 4 hs rfl hk rfl rfl rfl rfl fun b2 w a hk hs=>salx 5 hs rfl hk rfl rfl ze28 rfl fun b3 w a hk hs=>nx hK1 <| sq fun _ hK4=>sr fun _ hK5=>mv hk rfl fun a hk=>nx hK5 ?_
 obtain ⟨o25,h26,HL27⟩:=bind_some H
 clear H
 obtain ⟨R28,hR28⟩:=nm fun a w=>∃ (u17:List ByteArray) (u21:List S_Io) (A18:Option Addr) (p19:Nat) (A22:Option Addr) (p23:Nat) (kf7:Chunk),o25 = .out (u17,u21)∧Kn [(3,(vP (some ⟨b2,0,none⟩))),(6,(vP (some ⟨b3,0,none⟩)))] 25 a∧Sat [] w0 w [(1,k0_0),(2,k0_1),(3,k2_)] [(4,[(b2,.cells #[vL A18 u17.length p19,vL A22 u21.length p23] 28 (0,0))]),(6,kf7),(5,[(b3,.cells #[vL none 0 0,vL none 0 0] 28 (0,0))])]∧View Lay.str A18 p19 u17 (k0_0++(k0_1++(k2_++kf7)))∧View L_Io A22 p23 u21 (k0_0++(k0_1++(k2_++kf7)))
 refine wp_cutq R28 ?_ ?_
 ·refine wp_block ?_
  obtain ⟨fu30,h26⟩:=loopO_some h26
  obtain ⟨I29,hI29⟩:=nm fun fu a w=>∃ (u8:Int) (u9:List ByteArray) (u13:List S_Io) (A10:Option Addr) (p11:Nat) (A14:Option Addr) (p15:Nat) (kf6:Chunk),loopN (fun s=>spec_l13Lay.s0 x1 l2 s.1 s.2.1 s.2.2) fu (u8,u9,u13)=some o25∧Kn [(1,(vI iS x1)),(2,(vL A2_ l2.length p2_)),(3,(vP (some ⟨b2,0,none⟩))),(6,(vP (some ⟨b3,0,none⟩))),(7,(vI iS u8))] 25 a∧Sat [] w0 w [(1,k0_0),(2,k0_1),(3,k2_)] [(4,[(b2,.cells #[vL A10 u9.length p11,vL A14 u13.length p15] 28 (0,0))]),(6,kf6),(5,[(b3,.cells #[vL none 0 0,vL none 0 0] 28 (0,0))])]∧View Lay.str A10 p11 u9 (k0_0++(k0_1++(k2_++kf6)))∧View L_Io A14 p15 u13 (k0_0++(k0_1++(k2_++kf6)))
  refine wp_loop_ghost I29 fu30 ?_ ?_
  ·rw [hI29]
   exact ⟨_,_,_,A0_0,p0_0,A0_1,p0_1,_,h26,(hk.al rfl),((hs.addNil 3006).pick [(4,4),(6,3006),(5,5)] rfl),(v0_0).sub (Sub.l _ (Sub.refl _)),(v0_1).sub (Sub.r _ (Sub.l _ (Sub.refl _)))⟩
  clear h26 hk hs
  intro fu30 a w hI0
  rw [hI29] at hI0
  obtain ⟨u8,u9,u13,A10,p11,A14,p15,kf6,hi,hk,hs,v12,v16⟩:=hI0
  obtain ⟨x31,H,h32⟩:=loop_round hi
  try dsimp only at H
  unfold spec_l13Lay.s0 at H
  refine sq fun _ hK33=>sr fun _ hK34=>mv hk rfl fun a hk=>mv hk rfl fun a hk=>sle rfl hk rfl rfl rfl un25 fun a hk=>sv (.bool (decide (u8<(l2.length:Int)))) hk rfl rfl rfl fun a hk=>nx hK34 ?_
  rcases cond_some H with ⟨c35,H⟩ | ⟨c35,H⟩
  ·have hk:=hk.lit 11 c35 rfl
   refine cnd_true hk rfl rfl <| wp_skip <| hK33 _ _ <| sq fun _ hK36=>wp_block ?_
   refine wp_region_tree (.q 0 (.q 1 (.q 2 (.q 3 (.q 4 (.q 5 (.alt 6 (.alt 7 (.alt 8 (.alt 9 (.last 10) .stop) .stop) .stop) .stop))))))) mo (by kernel_rfl) (hs.pick [(4,4),(6,6),(5,5)] rfl) fun _=>?_
   have hs:=hs.drew
   refine tqst _ hk rfl rfl rfl rfl (fun w hs=>sln [vL A10 u9.length p11,vL A14 u13.length p15] rfl hk rfl rfl rfl ag28 sz28 (box_cells hs (k:=4) rfl) fun a hk=>qe hk) fun a hk=>tqm hk rfl fun a hk=>tqv (vI iS (w64 (16*x1))) hk rfl rfl (fun _=>rfl) fun a hk=>tqm hk rfl fun a hk=>tqv (vI iS (w64 ((w64 (16*x1))+u8))) hk rfl rfl (fun _=>rfl) fun a hk=>tqm hk rfl fun a hk=>tss hs hk rfl rfl fun _ hK_r37_6 w hs=>mv hk rfl fun a hk=>se (hs.pick [(4,4),(6,6),(5,5)] rfl) hk (hK_r37_6 _ _ ?_)
   refine tss hs hk rfl rfl fun _ hK_r37_7 w hs=>?_
   obtain ⟨c38,H⟩:=ite_no H
   obtain ⟨b39,q40,hAc38⟩:=(v2_).some_ u8 c38.1 c38.2
   refine si rfl hk rfl rfl rfl rfl un25 sz9 c38.1 c38.2 hAc38 fun a hk=>se (hs.pick [(4,4),(6,6),(5,5)] rfl) hk (hK_r37_7 _ _ ?_)
   refine tss hs hk rfl rfl fun _ hK_r37_8 w hs=>?_
   obtain ⟨_,rfl,e41⟩:=(v2_).at_ ByteArray.empty u8 c38.1 c38.2
   refine sl (v:=(vS (l2.getD u8.toNat ByteArray.empty))) rfl hk rfl rfl rfl ag9 ((e41 0 _ rfl).cell (hs.hasD (k:=3) rfl)) fun a hk=>se (hs.pick [(4,4),(6,6),(5,5)] rfl) hk (hK_r37_8 _ _ ?_)
   refine tss hs hk rfl rfl fun _ hK_r37_9 w hs=>?_
   obtain ⟨y42,h43,H⟩:=bind_some H
   refine sc rfl en55 hk rfl rfl rfl (spec_l05Write_t _ (⟨u9,u13⟩:S_Device) A10 p11 _ v12 (Has.app (hs.hasD (k:=1) rfl) (Has.app (hs.hasD (k:=2) rfl) (Has.app (hs.hasD (k:=3) rfl) (hs.hasG (k:=6) rfl)))) A14 p15 _ v16 (Has.app (hs.hasD (k:=1) rfl) (Has.app (hs.hasD (k:=2) rfl) (Has.app (hs.hasD (k:=3) rfl) (hs.hasG (k:=6) rfl)))) (w64 ((w64 (16*x1))+u8)) (l2.getD u8.toNat ByteArray.empty) _ h43) ?_
   rintro _ w ⟨A45,p46,A48,p49,k50,k44,rfl,v47,o51,hG⟩ a hk
   have hs:=hs.call0k hG [9,8] rfl
   refine se (hs.pick [(4,4),(6,6),(5,5)] rfl) hk (hK_r37_9 _ _ ?_)
   refine tlst hk rfl rfl fun K_r37_10 hK_r37_10 w hF=>?_
   have hs:=hs.f hF
   refine ssw 4 hs rfl rfl hk rfl rfl rfl rfl sz28 (by simp [Value.oneCell']) rfl fun w a hk hs=>se trivial hk (hK_r37_10 _ _ fun w hF=>?_)
   have hs:=hs.f hF
   refine hK36 _ _ ?_
   apply wp_region_lit
   refine mv hk rfl fun a hk=>sv (vI iS (w64 (u8+1))) hk rfl rfl rfl fun a hk=>mv hk rfl fun a hk=>?_
   show wpList _ _ _ [] _ _
   refine wpList_nil ?_
   obtain rfl:=osi H
   obtain ⟨m52,hmm52,h32⟩:=h32
   show ∃ n',n'<_∧I29 n' _ _
   refine ⟨m52,hmm52,?_⟩
   rw [hI29]
   exact ⟨_,_,_,A45,p46,A48,p49,_,h32,(hk.al rfl),(((hs.join (k:=6) (j:=8) 4010 rfl rfl).join (k:=4010) (j:=9) 4011 rfl rfl).pick [(4,4),(6,4011),(5,5)] rfl),(v47).sub (Sub.a (Sub.a (Sub.l _ (Sub.refl _)) (Sub.a (Sub.r _ (Sub.l _ (Sub.refl _))) (Sub.a (Sub.r _ (Sub.r _ (Sub.l _ (Sub.refl _)))) (Sub.r _ (Sub.r _ (Sub.r _ (Sub.l _ (Sub.l _ (Sub.refl _))))))))) (Sub.r _ (Sub.r _ (Sub.r _ (Sub.l _ (Sub.r _ (Sub.refl _))))))),(o51.view).sub (Sub.r _ (Sub.r _ (Sub.r _ (Sub.r _ (Sub.refl _)))))⟩
  have hk:=hk.lit 11 c35 rfl
  refine cnd_false hk rfl rfl <| wp_exit ?_
  obtain rfl:=osi H
  show R28 _ _
  rw [hR28]
  exact ⟨_,_,A10,p11,A14,p15,_,h32.symm,(hk.al rfl),(hs.pick [(4,4),(6,6),(5,5)] rfl),(v12).sub (Sub.refl _),(v16).sub (Sub.refl _)⟩
 intro a w hR0
 rw [hR28] at hR0
 obtain ⟨u17,u21,A18,p19,A22,p23,kf7,rfl,hk,hs,v20,v24⟩:=hR0
 have H:=HL27
 try dsimp only at H
 refine hK4 _ _ <| sr fun _ hK53=>sln [vL A18 u17.length p19,vL A22 u21.length p23] rfl hk rfl rfl rfl ag28 sz28 (box_cells hs (k:=4) rfl) fun a hk=>ssw 5 hs rfl rfl hk rfl rfl rfl rfl sz28 (by simp [Value.oneCell']) rfl fun w a hk hs=>nx hK53 <| wp_ret ?_
 obtain rfl:=osi H
 exact fin hk _ [(.agg #[vL A18 u17.length p19,vL A22 u21.length p23])] rfl ⟨⟨_,rfl,run_loadN ag28 sz28 (box_cells hs (k:=5) rfl)⟩,trivial⟩ ⟨A18,p19,A22,p23,_,rfl,(v20).sub (Sub.refl _),(v24).sub (Sub.refl _),(hs.pick [(0,6)] rfl).dnil⟩
noncomputable def spec_NewDevice.f  : Option (S_Device) :=
  (if 0≤(40:Int)∧(40:Int)≤1073741824 then (some (⟨(List.replicate ((40:Int)).toNat ByteArray.empty),([]:List S_Io)⟩:S_Device)) else none)
theorem spec_NewDevice_t (w0:World)  (r:S_Device) (H:spec_NewDevice.f  = some r) :
    Calls Tryz.prog 31 #[] w0 (Ret (fun v w=>∃ (A0:Option Addr) (p0:Nat) (k0:Chunk),∃ (A1:Option Addr) (p1:Nat) (k1:Chunk),v = .agg #[vL A0 r.Sure.length p0,vL A1 r.Unsure.length p1]∧Own Lay.str 9 A0 p0 r.Sure k0∧Own L_Io 84 A1 p1 r.Unsure k1∧Sat [] w0 w [] [(0,k0),(1,k1)])):=by
 have hs:=sat0 w0 [] (by simp)
 unfold spec_NewDevice.f at H
 refine enter Tryz.func31 rfl Tryz.ntmps31 rfl fun a hk=>sr fun _ hK1=>salx 1 hs rfl hk rfl rfl ze28 rfl fun b2 w a hk hs=>nx hK1 <| sr fun _ hK3=>?_
 obtain ⟨c4,H⟩:=ite_no H
 refine smk 2 Lay.str hs rfl hk rfl rfl rfl rfl un25 mk9 lz9 rfl rfl c4.1 c4.2 fun b5 k6 w a hk o7 hs=>?_
 have lh8:(List.replicate ((40:Int)).toNat ByteArray.empty).length=((40:Int)).toNat:=List.length_replicate
 refine sbs0 3 L_Io hs rfl hk rfl rfl un26 sz84 fun b9 k10 w a hk o11 hs=>sbd (pv:=[(0,(vL (some ⟨b5,0,none⟩) (((40:Int)).toNat) (((40:Int)).toNat))),(1,(vL (some ⟨b9,0,none⟩) 0 0))]) rfl hk rfl rfl rfl (bd28_18 (some ⟨b5,0,none⟩) (((40:Int)).toNat) (((40:Int)).toNat) (some ⟨b9,0,none⟩) 0 0) fun a hk=>ssw 1 hs rfl rfl hk rfl rfl rfl rfl sz28 (by simp [Value.oneCell']) rfl fun w a hk hs=>nx hK3 <| wp_ret ?_
 obtain rfl:=osi H
 exact fin hk _ [(.agg #[vL (some ⟨b5,0,none⟩) (((40:Int)).toNat) (((40:Int)).toNat),vL (some ⟨b9,0,none⟩) 0 0])] rfl ⟨⟨_,rfl,run_loadN ag28 sz28 (box_cells hs (k:=1) rfl)⟩,trivial⟩ ⟨(some ⟨b5,0,none⟩),(((40:Int)).toNat),_,(some ⟨b9,0,none⟩),0,_,(by first | (rw [lh8];done) | (rw [lh8];rfl)),o7,o11,(hs.pick [(0,2),(1,3)] rfl).dnil⟩
noncomputable def spec_l13Init.f (x0:ByteArray) (l1:List Int):Option (S_Store) :=
  ((spec_NewEnc.f l1).bind fun y4=>((spec_l13Side.f x0 0 0 y4.1 ([]:List S_Result)).bind fun y27=>((spec_l01Of.f (⟨#[98,101,103,105,110]⟩:ByteArray)).bind fun y34=>((spec_l07Root.f y27).bind fun y37=>((spec_NewDevice.f).bind fun y39=>((spec_l13Lay.f y39 0 y27).bind fun y49=>((spec_l05Sync.f y49).bind fun y58=>(some (⟨x0,(⟨0,0,0,0,y34,y34,y37⟩:S_Register),y58,true,false⟩:S_Store)))))))))
theorem spec_l13Init_t (w0:World) (x0:ByteArray) (A1_:Option Addr) (p1_:Nat) (l1:List Int) (k1_:Chunk) (v1_:View (Lay.int iS) A1_ p1_ l1 k1_) (w1_:Has w0 k1_) (r:S_Store) (H:spec_l13Init.f x0 l1=some r) :
    Calls Tryz.prog 13 #[vS x0,vL A1_ l1.length p1_] w0 (Ret (fun v w=>∃ (A0:Option Addr) (p0:Nat) (k0:Chunk),∃ (A1:Option Addr) (p1:Nat) (k1:Chunk),v = .agg #[vS r.Key,vI iS r.Reg.Epoch,vI iS r.Reg.Side,vI iS r.Reg.Count,vI iS r.Reg.Boot,vS r.Reg.Base,vS r.Reg.Tip,vS r.Reg.Root,vL A0 r.Device.Sure.length p0,vL A1 r.Device.Unsure.length p1,.bool r.Up,.bool r.Dead]∧Own Lay.str 9 A0 p0 r.Device.Sure k0∧Own L_Io 84 A1 p1 r.Device.Unsure k1∧Sat [] w0 w [] [(0,k0),(1,k1)])):=by
 have hs:=sat0 w0 [(1,k1_)] (by simp only [List.mem_cons,List.not_mem_nil,or_false];rintro x (rfl) <;> assumption)
 unfold spec_l13Init.f at H
 refine enter Tryz.func13 rfl Tryz.ntmps13 rfl fun a hk=>sr fun _ hK1=>salx 2 hs rfl hk rfl rfl ze30 rfl fun b2 w a hk hs=>nx hK1 <| sr fun _ hK3=>mv hk rfl fun a hk=>?_
 obtain ⟨y4,h5,H⟩:=bind_some H
 refine sc rfl en25 hk rfl rfl rfl (spec_NewEnc_t _ A1_ p1_ l1 _ v1_ (hs.hasD (k:=1) rfl) _ h5) ?_
 rintro _ w ⟨A6,p7,k8,A10,p11,k12,A14,p15,k16,A18,p19,k20,rfl,o9,o13,o17,o21,hG⟩ a hk
 have hs:=hs.call0k hG [3,4,5,6] rfl
 refine mv hk rfl fun a hk=>sv (.agg #[vL A6 y4.1.Keys.length p7,vL A10 y4.1.Oram.Pos.length p11,vL A14 y4.1.Oram.Stash.length p15,vL A18 y4.1.Oram.Buckets.length p19]) hk rfl rfl rfl fun a hk=>sv (vI iS y4.2) hk rfl rfl rfl fun a hk=>salx 7 hs rfl hk rfl rfl ze47 rfl fun b22 w a hk hs=>ssw 7 hs rfl rfl hk rfl rfl rfl rfl sz47 (by simp [Value.oneCell']) rfl fun w a hk hs=>mv hk rfl fun a hk=>nx hK3 <| sr fun _ hK23=>mv hk rfl fun a hk=>sln [vL A6 y4.1.Keys.length p7,vL A10 y4.1.Oram.Pos.length p11,vL A14 y4.1.Oram.Stash.length p15,vL A18 y4.1.Oram.Buckets.length p19] rfl hk rfl rfl rfl ag47 sz47 (box_cells hs (k:=7) rfl) fun a hk=>sbs0 8 L_impl_Result hs rfl hk rfl rfl un59 sz91 fun b24 k25 w a hk o26 hs=>?_
 obtain ⟨y27,h28,H⟩:=bind_some H
 refine sc rfl en26 hk rfl rfl rfl (spec_l13Side_t _ x0 0 0 y4.1 A6 p7 _ o9.view (hs.hasG (k:=3) rfl) A10 p11 _ o13.view (hs.hasG (k:=4) rfl) A14 p15 _ o17.view (hs.hasG (k:=5) rfl) A18 p19 _ o21.view (hs.hasG (k:=6) rfl) (some ⟨b24,0,none⟩) 0 [] _ o26.view (hs.hasG (k:=8) rfl) _ h28) ?_
 rintro _ w ⟨A29,p30,k31,rfl,o32,hG⟩ a hk
 have hs:=hs.call0k hG [9] rfl
 refine mv hk rfl fun a hk=>nx hK23 <| sr fun _ hK33=>?_
 obtain ⟨y34,h35,H⟩:=bind_some H
 refine sc rfl en27 hk rfl rfl rfl (spec_l01Of_t _ (⟨#[98,101,103,105,110]⟩:ByteArray) _ h35) ?_
 rintro _ w ⟨rfl,hG⟩ a hk
 have hs:=hs.call0 hG
 refine mv hk rfl fun a hk=>nx hK33 <| sr fun _ hK36=>mv hk rfl fun a hk=>mv hk rfl fun a hk=>mv hk rfl fun a hk=>mv hk rfl fun a hk=>?_
 obtain ⟨y37,h38,H⟩:=bind_some H
 refine sc rfl en28 hk rfl rfl rfl (spec_l07Root_t _ A29 p30 y27 _ o32.view (hs.hasG (k:=9) rfl) _ h38) ?_
 rintro _ w ⟨rfl,hG⟩ a hk
 have hs:=hs.call0 hG
 refine sbd (pv:=[(4,(vS y34)),(5,(vS y34)),(6,(vS y37))]) rfl hk rfl rfl rfl (bd24_21 y34 y34 y37) fun a hk=>?_
 obtain ⟨y39,h40,H⟩:=bind_some H
 refine sc rfl en31 hk rfl rfl rfl (spec_NewDevice_t _ _ h40) ?_
 rintro _ w ⟨A41,p42,k43,A45,p46,k47,rfl,o44,o48,hG⟩ a hk
 have hs:=hs.call0k hG [10,11] rfl
 refine mv hk rfl fun a hk=>?_
 obtain ⟨y49,h50,H⟩:=bind_some H
 refine sc rfl en30 hk rfl rfl rfl (spec_l13Lay_t _ y39 A41 p42 _ o44.view (hs.hasG (k:=10) rfl) A45 p46 _ o48.view (hs.hasG (k:=11) rfl) 0 A29 p30 y27 _ o32.view (hs.hasG (k:=9) rfl) _ h50) ?_
 rintro _ w ⟨A52,p53,A55,p56,k51,rfl,v54,v57,hG⟩ a hk
 have hs:=hs.call0k hG [12] rfl
 obtain ⟨y58,h59,H⟩:=bind_some H
 refine sc rfl en29 hk rfl rfl rfl (spec_l05Sync_t _ y49 A52 p53 _ v54 (Has.app (hs.hasG (k:=10) rfl) (Has.app (hs.hasG (k:=11) rfl) (Has.app (hs.hasG (k:=9) rfl) (hs.hasG (k:=12) rfl)))) A55 p56 _ v57 (Has.app (hs.hasG (k:=10) rfl) (Has.app (hs.hasG (k:=11) rfl) (Has.app (hs.hasG (k:=9) rfl) (hs.hasG (k:=12) rfl)))) _ h59) ?_
 rintro _ w ⟨A60,p61,k62,A64,p65,k66,rfl,o63,o67,hG⟩ a hk
 have hs:=hs.call0k hG [13,14] rfl
 refine sbd (pv:=[(0,(vS x0)),(1,(.agg #[vI iS 0,vI iS 0,vI iS 0,vI iS 0,vS y34,vS y34,vS y37])),(2,(.agg #[vL A60 y58.Sure.length p61,vL A64 y58.Unsure.length p65])),(3,(.bool true))]) rfl hk rfl rfl rfl (bd30_22 x0 0 0 0 0 y34 y34 y37 A60 y58.Sure.length p61 A64 y58.Unsure.length p65 true) fun a hk=>ssw 2 hs rfl rfl hk rfl rfl rfl rfl sz30 (by simp [Value.oneCell']) rfl fun w a hk hs=>nx hK36 <| wp_ret ?_
 obtain rfl:=osi H
 exact fin hk _ [(.agg #[vS x0,vI iS 0,vI iS 0,vI iS 0,vI iS 0,vS y34,vS y34,vS y37,vL A60 y58.Sure.length p61,vL A64 y58.Unsure.length p65,.bool true,.bool false])] rfl ⟨⟨_,rfl,run_loadN ag30 sz30 (box_cells hs (k:=2) rfl)⟩,trivial⟩ ⟨A60,p61,_,A64,p65,_,rfl,o63,o67,(hs.pick [(0,13),(1,14)] rfl).dnil⟩
noncomputable def spec_Init.f (x0:ByteArray) (l1:List Int):Option (S_Store×Int) :=
  (((bif (decide ((x0.size:Int)>65536)) then (some true) else (some (decide ((l1.length:Int)>4096)))):Option (Bool)).bind fun u6=>(bif u6 then (some ((⟨ByteArray.empty,(⟨0,0,0,0,ByteArray.empty,ByteArray.empty,ByteArray.empty⟩:S_Register),(⟨([]:List ByteArray),([]:List S_Io)⟩:S_Device),false,false⟩:S_Store),2)) else (((bif ((x0.size:Int) != 32) then (some true) else (some ((l1.length:Int) != 12))):Option (Bool)).bind fun u17=>(bif u17 then (some ((⟨ByteArray.empty,(⟨0,0,0,0,ByteArray.empty,ByteArray.empty,ByteArray.empty⟩:S_Register),(⟨([]:List ByteArray),([]:List S_Io)⟩:S_Device),false,false⟩:S_Store),8)) else ((spec_l08Leaves.f l1).bind fun y27=>(bif (!y27) then (some ((⟨ByteArray.empty,(⟨0,0,0,0,ByteArray.empty,ByteArray.empty,ByteArray.empty⟩:S_Register),(⟨([]:List ByteArray),([]:List S_Io)⟩:S_Device),false,false⟩:S_Store),4)) else ((spec_l13Init.f x0 l1).bind fun y32=>(some (y32,0)))))))))
theorem spec_Init_t (w0:World) (x0:ByteArray) (A1_:Option Addr) (p1_:Nat) (l1:List Int) (k1_:Chunk) (v1_:View (Lay.int iS) A1_ p1_ l1 k1_) (w1_:Has w0 k1_) (r:S_Store×Int) (H:spec_Init.f x0 l1=some r) :
    Calls Tryz.prog 4 #[vS x0,vL A1_ l1.length p1_] w0 (Ret (fun v w=>∃ (A0:Option Addr) (p0:Nat) (k0:Chunk),∃ (A1:Option Addr) (p1:Nat) (k1:Chunk),v = .tuple #[.agg #[vS r.1.Key,vI iS r.1.Reg.Epoch,vI iS r.1.Reg.Side,vI iS r.1.Reg.Count,vI iS r.1.Reg.Boot,vS r.1.Reg.Base,vS r.1.Reg.Tip,vS r.1.Reg.Root,vL A0 r.1.Device.Sure.length p0,vL A1 r.1.Device.Unsure.length p1,.bool r.1.Up,.bool r.1.Dead],vI iS r.2]∧Own Lay.str 9 A0 p0 r.1.Device.Sure k0∧Own L_Io 84 A1 p1 r.1.Device.Unsure k1∧Sat [] w0 w [] [(0,k0),(1,k1)])):=by
 have hs:=sat0 w0 [(1,k1_)] (by simp only [List.mem_cons,List.not_mem_nil,or_false];rintro x (rfl) <;> assumption)
 unfold spec_Init.f at H
 refine enter Tryz.func4 rfl Tryz.ntmps4 rfl fun a hk=>sr fun _ hK1=>salx 2 hs rfl hk rfl rfl ze30 rfl fun b2 w a hk hs=>mv hk rfl fun a hk=>nx hK1 <| sq fun _ hK3=>sq fun _ hK4=>?_
 obtain ⟨o7,h8,HL9⟩:=bind_some H
 clear H
 obtain ⟨R10,hR10⟩:=nm fun a w=>∃ (u6:Bool),u6=o7∧Kn [(0,(vS x0)),(1,(vL A1_ l1.length p1_)),(4,(vP (some ⟨b2,0,none⟩))),(13,(.bool u6))] 31 a∧Sat [] w0 w [(1,k1_)] [(2,[(b2,.cells #[vS ByteArray.empty,vI iS 0,vI iS 0,vI iS 0,vI iS 0,vS ByteArray.empty,vS ByteArray.empty,vS ByteArray.empty,vL none 0 0,vL none 0 0,.bool false,.bool false] 30 (0,0))])]
 refine wp_cutq R10 ?_ ?_
 ·have H:=h8
  apply wp_region_lit
  refine mv hk rfl fun a hk=>sles rfl hk rfl rfl rfl un9 fun a hk=>sv (.bool (decide ((x0.size:Int)>65536))) hk rfl rfl rfl fun a hk=>mv hk rfl fun a hk=>?_
  rcases cond_some H with ⟨c11,H⟩ | ⟨c11,H⟩
  ·have hk:=hk.lit 9 c11 rfl
   refine sk hk rfl rfl rfl fun a hk=>sk hk rfl rfl rfl fun a hk=>sk hk rfl rfl rfl fun a hk=>sv (.bool true) hk rfl rfl rfl fun a hk=>?_
   show wpList _ _ _ [] _ _
   refine wpList_nil ?_
   obtain rfl:=osi H
   show R10 _ _
   rw [hR10]
   exact ⟨true,rfl,(hk.al rfl),(hs.pick [(2,2)] rfl)⟩
  have hk:=hk.lit 9 c11 rfl
  refine mv hk rfl fun a hk=>sle rfl hk rfl rfl rfl un22 fun a hk=>sv (.bool (decide ((l1.length:Int)>4096))) hk rfl rfl rfl fun a hk=>sv (.bool (decide ((l1.length:Int)>4096))) hk rfl rfl rfl fun a hk=>?_
  show wpList _ _ _ [] _ _
  refine wpList_nil ?_
  obtain rfl:=osi H
  show R10 _ _
  rw [hR10]
  exact ⟨(decide ((l1.length:Int)>4096)),rfl,(hk.al rfl),(hs.pick [(2,2)] rfl)⟩
 intro a w hR0
 rw [hR10] at hR0
 obtain ⟨u6,rfl,hk,hs⟩:=hR0
 have H:=HL9
 try dsimp only at H
 refine hK4 _ _ ?_
 rcases cond_some H with ⟨c12,H⟩ | ⟨c12,H⟩
 ·have hk:=hk.lit 13 c12 rfl
  refine cnd_true hk rfl rfl <| sr fun _ hK13=>sbd (pv:=[]) rfl hk rfl rfl rfl bd30_23 fun a hk=>ssw 2 hs rfl rfl hk rfl rfl rfl rfl sz30 (by simp [Value.oneCell']) rfl fun w a hk hs=>mv hk rfl fun a hk=>nx hK13 <| wp_ret ?_
  obtain rfl:=osi H
  have hs:=hs.addNil 4
  have hs:=hs.addNil 5
  exact fin hk _ [(.agg #[vS ByteArray.empty,vI iS 0,vI iS 0,vI iS 0,vI iS 0,vS ByteArray.empty,vS ByteArray.empty,vS ByteArray.empty,vL none 0 0,vL none 0 0,.bool false,.bool false]),(vI iS 2)] rfl ⟨⟨_,rfl,run_loadN ag30 sz30 (box_cells hs (k:=2) rfl)⟩,⟨rfl,trivial⟩⟩ ⟨none,0,[],none,0,[],rfl,Own.nil _ _,Own.nil _ _,(hs.pick [(0,4),(1,5)] rfl).dnil⟩
 have hk:=hk.lit 13 c12 rfl
 refine cnd_false hk rfl rfl <| wp_skip <| hK3 _ _ <| sq fun _ hK14=>sq fun _ hK15=>?_
 obtain ⟨o18,h19,HL20⟩:=bind_some H
 clear H
 obtain ⟨R21,hR21⟩:=nm fun a w=>∃ (u17:Bool),u17=o18∧Kn [(0,(vS x0)),(1,(vL A1_ l1.length p1_)),(4,(vP (some ⟨b2,0,none⟩))),(22,(.bool u17))] 31 a∧Sat [] w0 w [(1,k1_)] [(2,[(b2,.cells #[vS ByteArray.empty,vI iS 0,vI iS 0,vI iS 0,vI iS 0,vS ByteArray.empty,vS ByteArray.empty,vS ByteArray.empty,vL none 0 0,vL none 0 0,.bool false,.bool false] 30 (0,0))])]
 refine wp_cutq R21 ?_ ?_
 ·have H:=h19
  apply wp_region_lit
  refine mv hk rfl fun a hk=>sles rfl hk rfl rfl rfl un9 fun a hk=>sv (.bool ((x0.size:Int) != 32)) hk rfl rfl rfl fun a hk=>mv hk rfl fun a hk=>?_
  rcases cond_some H with ⟨c22,H⟩ | ⟨c22,H⟩
  ·have hk:=hk.lit 18 c22 rfl
   refine sk hk rfl rfl rfl fun a hk=>sk hk rfl rfl rfl fun a hk=>sk hk rfl rfl rfl fun a hk=>sv (.bool true) hk rfl rfl rfl fun a hk=>?_
   show wpList _ _ _ [] _ _
   refine wpList_nil ?_
   obtain rfl:=osi H
   show R21 _ _
   rw [hR21]
   exact ⟨true,rfl,(hk.al rfl),(hs.pick [(2,2)] rfl)⟩
  have hk:=hk.lit 18 c22 rfl
  refine mv hk rfl fun a hk=>sle rfl hk rfl rfl rfl un22 fun a hk=>sv (.bool ((l1.length:Int) != 12)) hk rfl rfl rfl fun a hk=>sv (.bool ((l1.length:Int) != 12)) hk rfl rfl rfl fun a hk=>?_
  show wpList _ _ _ [] _ _
  refine wpList_nil ?_
  obtain rfl:=osi H
  show R21 _ _
  rw [hR21]
  exact ⟨((l1.length:Int) != 12),rfl,(hk.al rfl),(hs.pick [(2,2)] rfl)⟩
 intro a w hR0
 rw [hR21] at hR0
 obtain ⟨u17,rfl,hk,hs⟩:=hR0
 have H:=HL20
 try dsimp only at H
 refine hK15 _ _ ?_
 rcases cond_some H with ⟨c23,H⟩ | ⟨c23,H⟩
 ·have hk:=hk.lit 22 c23 rfl
  refine cnd_true hk rfl rfl <| sr fun _ hK24=>sbd (pv:=[]) rfl hk rfl rfl rfl bd30_23 fun a hk=>ssw 2 hs rfl rfl hk rfl rfl rfl rfl sz30 (by simp [Value.oneCell']) rfl fun w a hk hs=>mv hk rfl fun a hk=>nx hK24 <| wp_ret ?_
  obtain rfl:=osi H
  have hs:=hs.addNil 7
  have hs:=hs.addNil 8
  exact fin hk _ [(.agg #[vS ByteArray.empty,vI iS 0,vI iS 0,vI iS 0,vI iS 0,vS ByteArray.empty,vS ByteArray.empty,vS ByteArray.empty,vL none 0 0,vL none 0 0,.bool false,.bool false]),(vI iS 8)] rfl ⟨⟨_,rfl,run_loadN ag30 sz30 (box_cells hs (k:=2) rfl)⟩,⟨rfl,trivial⟩⟩ ⟨none,0,[],none,0,[],rfl,Own.nil _ _,Own.nil _ _,(hs.pick [(0,7),(1,8)] rfl).dnil⟩
 have hk:=hk.lit 22 c23 rfl
 refine cnd_false hk rfl rfl <| wp_skip <| hK14 _ _ <| sq fun _ hK25=>sr fun _ hK26=>mv hk rfl fun a hk=>?_
 obtain ⟨y27,h28,H⟩:=bind_some H
 refine sc rfl en12 hk rfl rfl rfl (spec_l08Leaves_t _ A1_ p1_ l1 _ v1_ (hs.hasD (k:=1) rfl) _ h28) ?_
 rintro _ w ⟨rfl,hG⟩ a hk
 have hs:=hs.call0 hG
 refine sv (.bool (!y27)) hk rfl rfl rfl fun a hk=>nx hK26 ?_
 rcases cond_some H with ⟨c29,H⟩ | ⟨c29,H⟩
 ·have hk:=hk.lit 26 c29 rfl
  refine cnd_true hk rfl rfl <| sr fun _ hK30=>sbd (pv:=[]) rfl hk rfl rfl rfl bd30_23 fun a hk=>ssw 2 hs rfl rfl hk rfl rfl rfl rfl sz30 (by simp [Value.oneCell']) rfl fun w a hk hs=>mv hk rfl fun a hk=>nx hK30 <| wp_ret ?_
  obtain rfl:=osi H
  have hs:=hs.addNil 9
  have hs:=hs.addNil 10
  exact fin hk _ [(.agg #[vS ByteArray.empty,vI iS 0,vI iS 0,vI iS 0,vI iS 0,vS ByteArray.empty,vS ByteArray.empty,vS ByteArray.empty,vL none 0 0,vL none 0 0,.bool false,.bool false]),(vI iS 4)] rfl ⟨⟨_,rfl,run_loadN ag30 sz30 (box_cells hs (k:=2) rfl)⟩,⟨rfl,trivial⟩⟩ ⟨none,0,[],none,0,[],rfl,Own.nil _ _,Own.nil _ _,(hs.pick [(0,9),(1,10)] rfl).dnil⟩
 have hk:=hk.lit 26 c29 rfl
 refine cnd_false hk rfl rfl <| wp_skip <| hK25 _ _ <| sr fun _ hK31=>mv hk rfl fun a hk=>mv hk rfl fun a hk=>?_
 obtain ⟨y32,h33,H⟩:=bind_some H
 refine sc rfl en13 hk rfl rfl rfl (spec_l13Init_t _ x0 A1_ p1_ l1 _ v1_ (hs.hasD (k:=1) rfl) _ h33) ?_
 rintro _ w ⟨A34,p35,k36,A38,p39,k40,rfl,o37,o41,hG⟩ a hk
 have hs:=hs.call0k hG [11,12] rfl
 refine ssw 2 hs rfl rfl hk rfl rfl rfl rfl sz30 (by simp [Value.oneCell']) rfl fun w a hk hs=>mv hk rfl fun a hk=>nx hK31 ?_
 have hs:=hs.pick [(2,2),(11,11),(12,12)] rfl
 refine wp_ret ?_
 obtain rfl:=osi H
 exact fin hk _ [(.agg #[vS y32.Key,vI iS y32.Reg.Epoch,vI iS y32.Reg.Side,vI iS y32.Reg.Count,vI iS y32.Reg.Boot,vS y32.Reg.Base,vS y32.Reg.Tip,vS y32.Reg.Root,vL A34 y32.Device.Sure.length p35,vL A38 y32.Device.Unsure.length p39,.bool y32.Up,.bool y32.Dead]),(vI iS 0)] rfl ⟨⟨_,rfl,run_loadN ag30 sz30 (box_cells hs (k:=2) rfl)⟩,⟨rfl,trivial⟩⟩ ⟨A34,p35,_,A38,p39,_,rfl,o37,o41,(hs.pick [(0,11),(1,12)] rfl).dnil⟩
noncomputable def laws_toIntS.s0 (l0:List Int) (u12:List Int) (u16:Int):Option (((List Int)×Int) ⊕ Ex ((List Int)) ((List Int))) :=
  (bif (decide (u16<(l0.length:Int))) then (if 0≤u16∧u16<(l0.length:Int) then (if 0≤u16∧u16<((((l0.length:Int)).toNat):Int) then (some (.inl ((u12.set u16.toNat (l0.getD u16.toNat 0)),(w64 (u16+1))))) else none) else none) else (some (.inr (.out u12))))
noncomputable def laws_toIntS.f (l0:List Int):Option ((List Int)) :=
  (if 0≤(l0.length:Int)∧(l0.length:Int)≤1073741824 then ((loopO (fun s=>laws_toIntS.s0 l0 s.1 s.2) ((List.replicate ((l0.length:Int)).toNat (0:Int)),0)).bind fun o=>match o with | .out u17=>(some u17) | .ret r=>(some r)) else none)
theorem laws_toIntS_t (w0:World) (A0_:Option Addr) (p0_:Nat) (l0:List Int) (k0_:Chunk) (v0_:View (Lay.int iS) A0_ p0_ l0 k0_) (w0_:Has w0 k0_) (r:(List Int)) (H:laws_toIntS.f l0=some r) :
    Calls Tryz.prog 5 #[vL A0_ l0.length p0_] w0 (Ret (fun v w=>∃ (A0:Option Addr) (p0:Nat) (k0:Chunk),v=vL A0 r.length p0∧Own (Lay.int iS) 3 A0 p0 r k0∧Sat [] w0 w [] [(0,k0)])):=by
 have hs:=sat0 w0 [(1,k0_)] (by simp only [List.mem_cons,List.not_mem_nil,or_false];rintro x (rfl) <;> assumption)
 unfold laws_toIntS.f at H
 refine enter Tryz.func5 rfl Tryz.ntmps5 rfl fun a hk=>sr fun _ hK1=>mv hk rfl fun a hk=>nx hK1 <| sr fun _ hK2=>mv hk rfl fun a hk=>sle rfl hk rfl rfl rfl un22 fun a hk=>?_
 obtain ⟨c3,H⟩:=ite_no H
 refine smk 2 (Lay.int iS) hs rfl hk rfl rfl rfl rfl un22 mk3 lz3 rfl rfl c3.1 c3.2 fun b4 k5 w a hk o6 hs=>?_
 have lh7:(List.replicate ((l0.length:Int)).toNat (0:Int)).length=((l0.length:Int)).toNat:=List.length_replicate
 refine mv hk rfl fun a hk=>nx hK2 <| sq fun _ hK8=>sr fun _ hK9=>mv hk rfl fun a hk=>nx hK9 ?_
 obtain ⟨o21,h22,HL23⟩:=bind_some H
 clear H
 obtain ⟨R24,hR24⟩:=nm fun a w=>∃ (u17:List Int) (k18:Chunk),o21 = .out u17∧Kn [(3,(vL (some ⟨b4,0,none⟩) (((l0.length:Int)).toNat) (((l0.length:Int)).toNat)))] 22 a∧Sat [] w0 w [(1,k0_)] [(2,k18)]∧Own (Lay.int iS) 3 (some ⟨b4,0,none⟩) (((l0.length:Int)).toNat) u17 k18∧u17.length=(((l0.length:Int)).toNat)
 refine wp_cutq R24 ?_ ?_
 ·refine wp_block ?_
  obtain ⟨fu26,h22⟩:=loopO_some h22
  obtain ⟨I25,hI25⟩:=nm fun fu a w=>∃ (u12:List Int) (u16:Int) (k13:Chunk),loopN (fun s=>laws_toIntS.s0 l0 s.1 s.2) fu (u12,u16)=some o21∧Kn [(0,(vL A0_ l0.length p0_)),(3,(vL (some ⟨b4,0,none⟩) (((l0.length:Int)).toNat) (((l0.length:Int)).toNat))),(4,(vI iS u16))] 22 a∧Sat [] w0 w [(1,k0_)] [(2,k13)]∧Own (Lay.int iS) 3 (some ⟨b4,0,none⟩) (((l0.length:Int)).toNat) u12 k13∧u12.length=(((l0.length:Int)).toNat)
  refine wp_loop_ghost I25 fu26 ?_ ?_
  ·rw [hI25]
   exact ⟨_,_,_,h22,(hk.al rfl),(hs.pick [(2,2)] rfl),o6,lh7⟩
  clear h22 hk hs
  intro fu26 a w hI0
  rw [hI25] at hI0
  obtain ⟨u12,u16,k13,hi,hk,hs,o14,lh15⟩:=hI0
  obtain ⟨x27,H,h28⟩:=loop_round hi
  try dsimp only at H
  unfold laws_toIntS.s0 at H
  refine sq fun _ hK29=>sr fun _ hK30=>mv hk rfl fun a hk=>mv hk rfl fun a hk=>sle rfl hk rfl rfl rfl un22 fun a hk=>sv (.bool (decide (u16<(l0.length:Int)))) hk rfl rfl rfl fun a hk=>nx hK30 ?_
  rcases cond_some H with ⟨c31,H⟩ | ⟨c31,H⟩
  ·have hk:=hk.lit 11 c31 rfl
   refine cnd_true hk rfl rfl <| wp_skip <| hK29 _ _ <| sq fun _ hK32=>wp_block ?_
   apply wp_region_lit
   refine mv hk rfl fun a hk=>mv hk rfl fun a hk=>mv hk rfl fun a hk=>mv hk rfl fun a hk=>?_
   obtain ⟨c33,H⟩:=ite_no H
   obtain ⟨b34,q35,hAc33⟩:=(v0_).some_ u16 c33.1 c33.2
   refine si rfl hk rfl rfl rfl rfl un22 sz3 c33.1 c33.2 hAc33 fun a hk=>?_
   obtain ⟨_,rfl,e36⟩:=(v0_).at_ 0 u16 c33.1 c33.2
   refine sl (v:=(vI iS (l0.getD u16.toNat 0))) rfl hk rfl rfl rfl ag3 ((e36 0 _ rfl).cell (hs.hasD (k:=1) rfl)) fun a hk=>?_
   obtain ⟨c37,H⟩:=ite_no H
   obtain ⟨b38,q39,hAc37⟩:=(o14.view).some_ u16 c37.1 (by rw [lh15];exact c37.2)
   refine si rfl hk rfl rfl rfl rfl un22 sz3 c37.1 c37.2 hAc37 fun a hk=>so (j:=0) 2 0 (l0.getD u16.toNat 0) hs rfl o14 c37.1 (by rw [lh15];exact c37.2) rfl hk rfl rfl rfl rfl rfl sz3 (by simp [Value.cells,Value.oneCell']) (Nat.le_of_ble_eq_true rfl) (fun _ _ h=>⟨by rw [h.1];rfl,h.2⟩) fun k40 w a hk o41 hs=>?_
   have lh42:(u12.set u16.toNat (l0.getD u16.toNat 0)).length=(((l0.length:Int)).toNat):=by rw [List.length_set];exact lh15
   refine nx hK32 ?_
   apply wp_region_lit
   refine mv hk rfl fun a hk=>sv (vI iS (w64 (u16+1))) hk rfl rfl rfl fun a hk=>mv hk rfl fun a hk=>?_
   show wpList _ _ _ [] _ _
   refine wpList_nil ?_
   obtain rfl:=osi H
   obtain ⟨m43,hmm43,h28⟩:=h28
   show ∃ n',n'<_∧I25 n' _ _
   refine ⟨m43,hmm43,?_⟩
   rw [hI25]
   exact ⟨_,_,_,h28,(hk.al rfl),(hs.pick [(2,2)] rfl),o41,lh42⟩
  have hk:=hk.lit 11 c31 rfl
  refine cnd_false hk rfl rfl <| wp_exit ?_
  obtain rfl:=osi H
  show R24 _ _
  rw [hR24]
  exact ⟨_,_,h28.symm,(hk.al rfl),(hs.pick [(2,2)] rfl),o14,lh15⟩
 intro a w hR0
 rw [hR24] at hR0
 obtain ⟨u17,k18,rfl,hk,hs,o19,lh20⟩:=hR0
 have H:=HL23
 try dsimp only at H
 refine hK8 _ _ <| sr fun _ hK44=>mv hk rfl fun a hk=>mv hk rfl fun a hk=>nx hK44 <| wp_ret ?_
 obtain rfl:=osi H
 exact fin hk _ [(vL (some ⟨b4,0,none⟩) (((l0.length:Int)).toNat) (((l0.length:Int)).toNat))] rfl ⟨rfl,trivial⟩ ⟨(some ⟨b4,0,none⟩),(((l0.length:Int)).toNat),_,(by first | (rw [lh20];done) | (rw [lh20];rfl)),o19,(hs.pick [(0,2)] rfl).dnil⟩
noncomputable def slices_IndexFunc_string_string.s0 (l0:List ByteArray) (q1:ByteArray→Option (Bool)) (u6:Int):Option ((Int) ⊕ Ex (Unit) (Int)) :=
  (bif (decide (u6<(l0.length:Int))) then (if 0≤u6∧u6<(l0.length:Int) then ((q1 (l0.getD u6.toNat ByteArray.empty)).bind fun y25=>(bif y25 then (some (.inr (.ret u6))) else (some (.inl (w64 (u6+1)))))) else none) else (some (.inr (.out ()))))
noncomputable def slices_IndexFunc_string_string.f (l0:List ByteArray) (q1:ByteArray→Option (Bool)):Option (Int) :=
  ((loopO (fun s=>slices_IndexFunc_string_string.s0 l0 q1 s) 0).bind fun o=>match o with | .out _=>(some (-1)) | .ret r=>(some r))
theorem slices_IndexFunc_string_string_t (w0:World) (A0_:Option Addr) (p0_:Nat) (l0:List ByteArray) (k0_:Chunk) (v0_:View Lay.str A0_ p0_ l0 k0_) (w0_:Has w0 k0_) (f1_:FuncId) (c1_:List Value) (e1_:Enters Tryz.prog f1_) (q1:ByteArray→Option (Bool)) (k1_:Chunk) (t1_:∀ w,Has w k1_→∀ (z0:ByteArray) (r:Bool),q1 z0=some r→Calls Tryz.prog f1_ (([vS z0]:List Value)++c1_).toArray w (Ret (fun v w2=>v = .bool r∧Sat [] w w2 [] []))) (w1_:Has w0 k1_) (r:Int) (H:slices_IndexFunc_string_string.f l0 q1=some r) :
    Calls Tryz.prog 79 #[vL A0_ l0.length p0_,.func (.func f1_) #[] c1_.toArray] w0 (Ret (fun v w=>v=vI iS r∧Sat [] w0 w [] [])):=by
 have hs:=sat0 w0 [(1,k0_),(2,k1_)] (by simp only [List.mem_cons,List.not_mem_nil,or_false];rintro x (rfl | rfl) <;> assumption)
 unfold slices_IndexFunc_string_string.f at H
 refine enter Tryz.func79 rfl Tryz.ntmps79 rfl fun a hk=>sr fun _ hK1=>mv hk rfl fun a hk=>nx hK1 <| sq fun _ hK2=>sr fun _ hK3=>mv hk rfl fun a hk=>sle rfl hk rfl rfl rfl un25 fun a hk=>mv hk rfl fun a hk=>nx hK3 ?_
 obtain ⟨o7,h8,HL9⟩:=bind_some H
 clear H
 obtain ⟨R10,hR10⟩:=nm fun a w=>o7 = .out ()∧Kn [] 19 a∧Sat [] w0 w [(1,k0_),(2,k1_)] []
 refine wp_cutq R10 ?_ ?_
 ·refine wp_block ?_
  obtain ⟨fu12,h8⟩:=loopO_some h8
  obtain ⟨I11,hI11⟩:=nm fun fu a w=>∃ (u6:Int),loopN (fun s=>slices_IndexFunc_string_string.s0 l0 q1 s) fu u6=some o7∧Kn [(0,(vL A0_ l0.length p0_)),(1,(.func (.func f1_) #[] c1_.toArray)),(7,(vI iS (l0.length:Int))),(8,(vI iS u6))] 19 a∧Sat [] w0 w [(1,k0_),(2,k1_)] []
  refine wp_loop_ghost I11 fu12 ?_ ?_
  ·rw [hI11]
   exact ⟨_,h8,(hk.al rfl),(hs.pick [] rfl)⟩
  clear h8 hk hs
  intro fu12 a w hI0
  rw [hI11] at hI0
  obtain ⟨u6,hi,hk,hs⟩:=hI0
  obtain ⟨x13,H,h14⟩:=loop_round hi
  try dsimp only at H
  unfold slices_IndexFunc_string_string.s0 at H
  refine sr fun _ hK15=>sv (.bool (decide (u6<(l0.length:Int)))) hk rfl rfl rfl fun a hk=>nx hK15 <| sq fun _ hK16=>?_
  rcases cond_some H with ⟨c17,H⟩ | ⟨c17,H⟩
  ·have hk:=hk.lit 9 c17 rfl
   refine cnd_true hk rfl rfl <| wp_skip <| hK16 _ _ <| sq fun _ hK18=>wp_block ?_
   refine sr fun _ hK19=>mv hk rfl fun a hk=>mv hk rfl fun a hk=>nx hK19 <| sr fun _ hK20=>mv hk rfl fun a hk=>mv hk rfl fun a hk=>mv hk rfl fun a hk=>?_
   obtain ⟨c21,H⟩:=ite_no H
   obtain ⟨b22,q23,hAc21⟩:=(v0_).some_ u6 c21.1 c21.2
   refine si rfl hk rfl rfl rfl rfl un25 sz9 c21.1 c21.2 hAc21 fun a hk=>?_
   obtain ⟨_,rfl,e24⟩:=(v0_).at_ ByteArray.empty u6 c21.1 c21.2
   refine sl (v:=(vS (l0.getD u6.toNat ByteArray.empty))) rfl hk rfl rfl rfl ag9 ((e24 0 _ rfl).cell (hs.hasD (k:=1) rfl)) fun a hk=>?_
   obtain ⟨y25,h26,H⟩:=bind_some H
   refine scv (vs:=([(vS (l0.getD u6.toNat ByteArray.empty))]:List Value)++c1_) rfl rfl e1_ hk rfl rfl rfl (t1_ _ (hs.hasD (k:=2) rfl) (l0.getD u6.toNat ByteArray.empty) _ h26) ?_
   rintro _ w ⟨rfl,hG⟩ a hk
   have hs:=hs.call0 hG
   refine nx hK20 ?_
   rcases cond_some H with ⟨c27,H⟩ | ⟨c27,H⟩
   ·have hk:=hk.lit 16 c27 rfl
    refine cnd_true hk rfl rfl <| sr fun _ hK28=>mv hk rfl fun a hk=>mv hk rfl fun a hk=>nx hK28 <| wp_ret ?_
    obtain rfl:=osi H
    have ho7:=h14
    try dsimp only at ho7
    subst ho7
    have H:=HL9
    try dsimp only at H
    obtain rfl:=osi H
    exact fin hk _ [(vI iS u6)] rfl ⟨rfl,trivial⟩ ⟨rfl,(hs.pick [] rfl).dnil⟩
   have hk:=hk.lit 16 c27 rfl
   refine cnd_false hk rfl rfl <| wp_skip <| hK18 _ _ ?_
   apply wp_region_lit
   refine sv (vI iS (w64 (u6+1))) hk rfl rfl rfl fun a hk=>mv hk rfl fun a hk=>?_
   show wpList _ _ _ [] _ _
   refine wpList_nil ?_
   obtain rfl:=osi H
   obtain ⟨m29,hmm29,h14⟩:=h14
   show ∃ n',n'<_∧I11 n' _ _
   refine ⟨m29,hmm29,?_⟩
   rw [hI11]
   exact ⟨_,h14,(hk.al rfl),(hs.pick [] rfl)⟩
  have hk:=hk.lit 9 c17 rfl
  refine cnd_false hk rfl rfl <| wp_exit ?_
  obtain rfl:=osi H
  show R10 _ _
  rw [hR10]
  exact ⟨h14.symm,hk.k,(hs.pick [] rfl)⟩
 intro a w hR0
 rw [hR10] at hR0
 obtain ⟨rfl,hk,hs⟩:=hR0
 have H:=HL9
 try dsimp only at H
 refine hK2 _ _ <| sr fun _ hK30=>mv hk rfl fun a hk=>nx hK30 <| wp_ret ?_
 obtain rfl:=osi H
 exact fin hk _ [(vI iS (-1))] rfl ⟨rfl,trivial⟩ ⟨rfl,(hs.pick [] rfl).dnil⟩
noncomputable def slices_ContainsFunc_string_string.f (l0:List ByteArray) (q1:ByteArray→Option (Bool)):Option (Bool) :=
  ((slices_IndexFunc_string_string.f l0 q1).bind fun y3=>(some (decide (y3 ≥ 0))))
theorem slices_ContainsFunc_string_string_t (w0:World) (A0_:Option Addr) (p0_:Nat) (l0:List ByteArray) (k0_:Chunk) (v0_:View Lay.str A0_ p0_ l0 k0_) (w0_:Has w0 k0_) (f1_:FuncId) (c1_:List Value) (e1_:Enters Tryz.prog f1_) (q1:ByteArray→Option (Bool)) (k1_:Chunk) (t1_:∀ w,Has w k1_→∀ (z0:ByteArray) (r:Bool),q1 z0=some r→Calls Tryz.prog f1_ (([vS z0]:List Value)++c1_).toArray w (Ret (fun v w2=>v = .bool r∧Sat [] w w2 [] []))) (w1_:Has w0 k1_) (r:Bool) (H:slices_ContainsFunc_string_string.f l0 q1=some r) :
    Calls Tryz.prog 56 #[vL A0_ l0.length p0_,.func (.func f1_) #[] c1_.toArray] w0 (Ret (fun v w=>v = .bool r∧Sat [] w0 w [] [])):=by
 have hs:=sat0 w0 [(1,k0_),(2,k1_)] (by simp only [List.mem_cons,List.not_mem_nil,or_false];rintro x (rfl | rfl) <;> assumption)
 unfold slices_ContainsFunc_string_string.f at H
 refine enter Tryz.func56 rfl Tryz.ntmps56 rfl fun a hk=>sr fun _ hK1=>mv hk rfl fun a hk=>nx hK1 <| sr fun _ hK2=>mv hk rfl fun a hk=>mv hk rfl fun a hk=>?_
 obtain ⟨y3,h4,H⟩:=bind_some H
 refine sc rfl en79 hk rfl rfl rfl (slices_IndexFunc_string_string_t _ A0_ p0_ l0 _ v0_ (hs.hasD (k:=1) rfl) f1_ c1_ e1_ q1 k1_ t1_ (hs.hasD (k:=2) rfl) _ h4) ?_
 rintro _ w ⟨rfl,hG⟩ a hk
 have hs:=hs.call0 hG
 refine sv (.bool (decide (y3 ≥ 0))) hk rfl rfl rfl fun a hk=>mv hk rfl fun a hk=>nx hK2 <| wp_ret ?_
 obtain rfl:=osi H
 exact fin hk _ [(.bool (decide (y3 ≥ 0)))] rfl ⟨rfl,trivial⟩ ⟨rfl,(hs.pick [] rfl).dnil⟩
noncomputable def impl_areAll_string__c1.f (x0:ByteArray) (q1:ByteArray→Option (Bool)):Option (Bool) :=
  ((q1 x0).bind fun y3=>(some (!y3)))
theorem impl_areAll_string__c1_t (w0:World) (x0:ByteArray) (b1_:Nat) (f1_:FuncId) (c1_:List Value) (e1_:Enters Tryz.prog f1_) (q1:ByteArray→Option (Bool)) (k1_:Chunk) (t1_:∀ w,Has w k1_→∀ (z0:ByteArray) (r:Bool),q1 z0=some r→Calls Tryz.prog f1_ (([vS z0]:List Value)++c1_).toArray w (Ret (fun v w2=>v = .bool r∧Sat [] w w2 [] []))) (w1_:Has w0 k1_) (h1_:Has w0 [(b1_,.cells #[.func (.func f1_) #[] c1_.toArray] 64 (0,0))]) (r:Bool) (H:impl_areAll_string__c1.f x0 q1=some r) :
    Calls Tryz.prog 57 #[vS x0,vP (some ⟨b1_,0,none⟩)] w0 (Ret (fun v w=>v = .bool r∧Sat [] w0 w [] [])):=by
 have hs:=sat0 w0 [(2,k1_),(1,[(b1_,.cells #[.func (.func f1_) #[] c1_.toArray] 64 (0,0))])] (by simp only [List.mem_cons,List.not_mem_nil,or_false];rintro x (rfl | rfl) <;> assumption)
 unfold impl_areAll_string__c1.f at H
 refine enter Tryz.func57 rfl Tryz.ntmps57 rfl fun a hk=>sr fun _ hK1=>mv hk rfl fun a hk=>nx hK1 <| sr fun _ hK2=>sl rfl hk rfl rfl rfl ag64 (box_cellD hs (k:=1) rfl rfl) fun a hk=>mv hk rfl fun a hk=>?_
 obtain ⟨y3,h4,H⟩:=bind_some H
 refine scv (vs:=([(vS x0)]:List Value)++c1_) rfl rfl e1_ hk rfl rfl rfl (t1_ _ (hs.hasD (k:=2) rfl) x0 _ h4) ?_
 rintro _ w ⟨rfl,hG⟩ a hk
 have hs:=hs.call0 hG
 refine sv (.bool (!y3)) hk rfl rfl rfl fun a hk=>mv hk rfl fun a hk=>nx hK2 <| wp_ret ?_
 obtain rfl:=osi H
 exact fin hk _ [(.bool (!y3))] rfl ⟨rfl,trivial⟩ ⟨rfl,(hs.pick [] rfl).dnil⟩
noncomputable def impl_areAll_string.f (l0:List ByteArray) (q1:ByteArray→Option (Bool)):Option (Bool) :=
  ((slices_ContainsFunc_string_string.f l0 (fun z0=>impl_areAll_string__c1.f z0 q1)).bind fun y4=>(some (!y4)))
theorem impl_areAll_string_t (w0:World) (A0_:Option Addr) (p0_:Nat) (l0:List ByteArray) (k0_:Chunk) (v0_:View Lay.str A0_ p0_ l0 k0_) (w0_:Has w0 k0_) (f1_:FuncId) (c1_:List Value) (e1_:Enters Tryz.prog f1_) (q1:ByteArray→Option (Bool)) (k1_:Chunk) (t1_:∀ w,Has w k1_→∀ (z0:ByteArray) (r:Bool),q1 z0=some r→Calls Tryz.prog f1_ (([vS z0]:List Value)++c1_).toArray w (Ret (fun v w2=>v = .bool r∧Sat [] w w2 [] []))) (w1_:Has w0 k1_) (r:Bool) (H:impl_areAll_string.f l0 q1=some r) :
    Calls Tryz.prog 32 #[vL A0_ l0.length p0_,.func (.func f1_) #[] c1_.toArray] w0 (Ret (fun v w=>v = .bool r∧Sat [] w0 w [] [])):=by
 have hs:=sat0 w0 [(1,k0_),(2,k1_)] (by simp only [List.mem_cons,List.not_mem_nil,or_false];rintro x (rfl | rfl) <;> assumption)
 unfold impl_areAll_string.f at H
 refine enter Tryz.func32 rfl Tryz.ntmps32 rfl fun a hk=>sr fun _ hK1=>sbx 3 hs rfl hk rfl rfl rfl rfl fun b2 w a hk hs=>mv hk rfl fun a hk=>nx hK1 <| sr fun _ hK3=>mv hk rfl fun a hk=>smf (cs:=[vP (some ⟨b2,0,none⟩)]) rfl hk rfl rfl rfl fun a hk=>?_
 obtain ⟨y4,h5,H⟩:=bind_some H
 refine sc rfl en56 hk rfl rfl rfl (slices_ContainsFunc_string_string_t _ A0_ p0_ l0 _ v0_ (hs.hasD (k:=1) rfl) 57 [vP (some ⟨b2,0,none⟩)] en57 (fun z0=>impl_areAll_string__c1.f z0 q1) ([(b2,.cells #[.func (.func f1_) #[] c1_.toArray] 64 (0,0))]++k1_) (fun w hz z0 r h=>impl_areAll_string__c1_t w z0 _ f1_ c1_ e1_ q1 k1_ t1_ (Has.right hz) (Has.left hz) r h) (Has.app (hs.hasG (k:=3) rfl) (hs.hasD (k:=2) rfl)) _ h5) ?_
 rintro _ w ⟨rfl,hG⟩ a hk
 have hs:=hs.call0 hG
 refine sv (.bool (!y4)) hk rfl rfl rfl fun a hk=>mv hk rfl fun a hk=>nx hK3 <| wp_ret ?_
 obtain rfl:=osi H
 exact fin hk _ [(.bool (!y4))] rfl ⟨rfl,trivial⟩ ⟨rfl,(hs.pick [] rfl).dnil⟩
noncomputable def impl_areShort_c1.f (x0:ByteArray):Option (Bool) :=
  (some (decide ((x0.size:Int)≤65536)))
theorem impl_areShort_c1_t (w0:World) (x0:ByteArray) (r:Bool) (H:impl_areShort_c1.f x0=some r) :
    Calls Tryz.prog 33 #[vS x0] w0 (Ret (fun v w=>v = .bool r∧Sat [] w0 w [] [])):=by
 have hs:=sat0 w0 [] (by simp)
 unfold impl_areShort_c1.f at H
 refine enter Tryz.func33 rfl Tryz.ntmps33 rfl fun a hk=>sr fun _ hK1=>mv hk rfl fun a hk=>nx hK1 <| sr fun _ hK2=>mv hk rfl fun a hk=>sles rfl hk rfl rfl rfl un9 fun a hk=>sv (.bool (decide ((x0.size:Int)≤65536))) hk rfl rfl rfl fun a hk=>mv hk rfl fun a hk=>nx hK2 <| wp_ret ?_
 obtain rfl:=osi H
 exact fin hk _ [(.bool (decide ((x0.size:Int)≤65536)))] rfl ⟨rfl,trivial⟩ ⟨rfl,(hs.pick [] rfl).dnil⟩
noncomputable def impl_areShort.f (l0:List ByteArray):Option (Bool) :=
  ((impl_areAll_string.f l0 impl_areShort_c1.f).bind fun y3=>(some y3))
theorem impl_areShort_t (w0:World) (A0_:Option Addr) (p0_:Nat) (l0:List ByteArray) (k0_:Chunk) (v0_:View Lay.str A0_ p0_ l0 k0_) (w0_:Has w0 k0_) (r:Bool) (H:impl_areShort.f l0=some r) :
    Calls Tryz.prog 14 #[vL A0_ l0.length p0_] w0 (Ret (fun v w=>v = .bool r∧Sat [] w0 w [] [])):=by
 have hs:=sat0 w0 [(1,k0_)] (by simp only [List.mem_cons,List.not_mem_nil,or_false];rintro x (rfl) <;> assumption)
 unfold impl_areShort.f at H
 refine enter Tryz.func14 rfl Tryz.ntmps14 rfl fun a hk=>sr fun _ hK1=>mv hk rfl fun a hk=>nx hK1 <| sr fun _ hK2=>mv hk rfl fun a hk=>?_
 obtain ⟨y3,h4,H⟩:=bind_some H
 refine sc rfl en32 hk rfl rfl rfl (impl_areAll_string_t _ A0_ p0_ l0 _ v0_ (hs.hasD (k:=1) rfl) 33 [] en33 impl_areShort_c1.f [] (fun w _ z0 r h=>impl_areShort_c1_t w z0 r h) (Has.nil _) _ h4) ?_
 rintro _ w ⟨rfl,hG⟩ a hk
 have hs:=hs.call0 hG
 refine mv hk rfl fun a hk=>nx hK2 <| wp_ret ?_
 obtain rfl:=osi H
 exact fin hk _ [(.bool y3)] rfl ⟨rfl,trivial⟩ ⟨rfl,(hs.pick [] rfl).dnil⟩
noncomputable def slices_IndexFunc_int_int.s0 (l0:List Int) (q1:Int→Option (Bool)) (u6:Int):Option ((Int) ⊕ Ex (Unit) (Int)) :=
  (bif (decide (u6<(l0.length:Int))) then (if 0≤u6∧u6<(l0.length:Int) then ((q1 (l0.getD u6.toNat 0)).bind fun y25=>(bif y25 then (some (.inr (.ret u6))) else (some (.inl (w64 (u6+1)))))) else none) else (some (.inr (.out ()))))
noncomputable def slices_IndexFunc_int_int.f (l0:List Int) (q1:Int→Option (Bool)):Option (Int) :=
  ((loopO (fun s=>slices_IndexFunc_int_int.s0 l0 q1 s) 0).bind fun o=>match o with | .out _=>(some (-1)) | .ret r=>(some r))
theorem slices_IndexFunc_int_int_t (w0:World) (A0_:Option Addr) (p0_:Nat) (l0:List Int) (k0_:Chunk) (v0_:View (Lay.int iS) A0_ p0_ l0 k0_) (w0_:Has w0 k0_) (f1_:FuncId) (c1_:List Value) (e1_:Enters Tryz.prog f1_) (q1:Int→Option (Bool)) (k1_:Chunk) (t1_:∀ w,Has w k1_→∀ (z0:Int) (r:Bool),q1 z0=some r→Calls Tryz.prog f1_ (([vI iS z0]:List Value)++c1_).toArray w (Ret (fun v w2=>v = .bool r∧Sat [] w w2 [] []))) (w1_:Has w0 k1_) (r:Int) (H:slices_IndexFunc_int_int.f l0 q1=some r) :
    Calls Tryz.prog 114 #[vL A0_ l0.length p0_,.func (.func f1_) #[] c1_.toArray] w0 (Ret (fun v w=>v=vI iS r∧Sat [] w0 w [] [])):=by
 have hs:=sat0 w0 [(1,k0_),(2,k1_)] (by simp only [List.mem_cons,List.not_mem_nil,or_false];rintro x (rfl | rfl) <;> assumption)
 unfold slices_IndexFunc_int_int.f at H
 refine enter Tryz.func114 rfl Tryz.ntmps114 rfl fun a hk=>sr fun _ hK1=>mv hk rfl fun a hk=>nx hK1 <| sq fun _ hK2=>sr fun _ hK3=>mv hk rfl fun a hk=>sle rfl hk rfl rfl rfl un22 fun a hk=>mv hk rfl fun a hk=>nx hK3 ?_
 obtain ⟨o7,h8,HL9⟩:=bind_some H
 clear H
 obtain ⟨R10,hR10⟩:=nm fun a w=>o7 = .out ()∧Kn [] 19 a∧Sat [] w0 w [(1,k0_),(2,k1_)] []
 refine wp_cutq R10 ?_ ?_
 ·refine wp_block ?_
  obtain ⟨fu12,h8⟩:=loopO_some h8
  obtain ⟨I11,hI11⟩:=nm fun fu a w=>∃ (u6:Int),loopN (fun s=>slices_IndexFunc_int_int.s0 l0 q1 s) fu u6=some o7∧Kn [(0,(vL A0_ l0.length p0_)),(1,(.func (.func f1_) #[] c1_.toArray)),(7,(vI iS (l0.length:Int))),(8,(vI iS u6))] 19 a∧Sat [] w0 w [(1,k0_),(2,k1_)] []
  refine wp_loop_ghost I11 fu12 ?_ ?_
  ·rw [hI11]
   exact ⟨_,h8,(hk.al rfl),(hs.pick [] rfl)⟩
  clear h8 hk hs
  intro fu12 a w hI0
  rw [hI11] at hI0
  obtain ⟨u6,hi,hk,hs⟩:=hI0
  obtain ⟨x13,H,h14⟩:=loop_round hi
  try dsimp only at H
  unfold slices_IndexFunc_int_int.s0 at H
  refine sr fun _ hK15=>sv (.bool (decide (u6<(l0.length:Int)))) hk rfl rfl rfl fun a hk=>nx hK15 <| sq fun _ hK16=>?_
  rcases cond_some H with ⟨c17,H⟩ | ⟨c17,H⟩
  ·have hk:=hk.lit 9 c17 rfl
   refine cnd_true hk rfl rfl <| wp_skip <| hK16 _ _ <| sq fun _ hK18=>wp_block ?_
   refine sr fun _ hK19=>mv hk rfl fun a hk=>mv hk rfl fun a hk=>nx hK19 <| sr fun _ hK20=>mv hk rfl fun a hk=>mv hk rfl fun a hk=>mv hk rfl fun a hk=>?_
   obtain ⟨c21,H⟩:=ite_no H
   obtain ⟨b22,q23,hAc21⟩:=(v0_).some_ u6 c21.1 c21.2
   refine si rfl hk rfl rfl rfl rfl un22 sz3 c21.1 c21.2 hAc21 fun a hk=>?_
   obtain ⟨_,rfl,e24⟩:=(v0_).at_ 0 u6 c21.1 c21.2
   refine sl (v:=(vI iS (l0.getD u6.toNat 0))) rfl hk rfl rfl rfl ag3 ((e24 0 _ rfl).cell (hs.hasD (k:=1) rfl)) fun a hk=>?_
   obtain ⟨y25,h26,H⟩:=bind_some H
   refine scv (vs:=([(vI iS (l0.getD u6.toNat 0))]:List Value)++c1_) rfl rfl e1_ hk rfl rfl rfl (t1_ _ (hs.hasD (k:=2) rfl) (l0.getD u6.toNat 0) _ h26) ?_
   rintro _ w ⟨rfl,hG⟩ a hk
   have hs:=hs.call0 hG
   refine nx hK20 ?_
   rcases cond_some H with ⟨c27,H⟩ | ⟨c27,H⟩
   ·have hk:=hk.lit 16 c27 rfl
    refine cnd_true hk rfl rfl <| sr fun _ hK28=>mv hk rfl fun a hk=>mv hk rfl fun a hk=>nx hK28 <| wp_ret ?_
    obtain rfl:=osi H
    have ho7:=h14
    try dsimp only at ho7
    subst ho7
    have H:=HL9
    try dsimp only at H
    obtain rfl:=osi H
    exact fin hk _ [(vI iS u6)] rfl ⟨rfl,trivial⟩ ⟨rfl,(hs.pick [] rfl).dnil⟩
   have hk:=hk.lit 16 c27 rfl
   refine cnd_false hk rfl rfl <| wp_skip <| hK18 _ _ ?_
   apply wp_region_lit
   refine sv (vI iS (w64 (u6+1))) hk rfl rfl rfl fun a hk=>mv hk rfl fun a hk=>?_
   show wpList _ _ _ [] _ _
   refine wpList_nil ?_
   obtain rfl:=osi H
   obtain ⟨m29,hmm29,h14⟩:=h14
   show ∃ n',n'<_∧I11 n' _ _
   refine ⟨m29,hmm29,?_⟩
   rw [hI11]
   exact ⟨_,h14,(hk.al rfl),(hs.pick [] rfl)⟩
  have hk:=hk.lit 9 c17 rfl
  refine cnd_false hk rfl rfl <| wp_exit ?_
  obtain rfl:=osi H
  show R10 _ _
  rw [hR10]
  exact ⟨h14.symm,hk.k,(hs.pick [] rfl)⟩
 intro a w hR0
 rw [hR10] at hR0
 obtain ⟨rfl,hk,hs⟩:=hR0
 have H:=HL9
 try dsimp only at H
 refine hK2 _ _ <| sr fun _ hK30=>mv hk rfl fun a hk=>nx hK30 <| wp_ret ?_
 obtain rfl:=osi H
 exact fin hk _ [(vI iS (-1))] rfl ⟨rfl,trivial⟩ ⟨rfl,(hs.pick [] rfl).dnil⟩
noncomputable def slices_ContainsFunc_int_int.f (l0:List Int) (q1:Int→Option (Bool)):Option (Bool) :=
  ((slices_IndexFunc_int_int.f l0 q1).bind fun y3=>(some (decide (y3 ≥ 0))))
theorem slices_ContainsFunc_int_int_t (w0:World) (A0_:Option Addr) (p0_:Nat) (l0:List Int) (k0_:Chunk) (v0_:View (Lay.int iS) A0_ p0_ l0 k0_) (w0_:Has w0 k0_) (f1_:FuncId) (c1_:List Value) (e1_:Enters Tryz.prog f1_) (q1:Int→Option (Bool)) (k1_:Chunk) (t1_:∀ w,Has w k1_→∀ (z0:Int) (r:Bool),q1 z0=some r→Calls Tryz.prog f1_ (([vI iS z0]:List Value)++c1_).toArray w (Ret (fun v w2=>v = .bool r∧Sat [] w w2 [] []))) (w1_:Has w0 k1_) (r:Bool) (H:slices_ContainsFunc_int_int.f l0 q1=some r) :
    Calls Tryz.prog 96 #[vL A0_ l0.length p0_,.func (.func f1_) #[] c1_.toArray] w0 (Ret (fun v w=>v = .bool r∧Sat [] w0 w [] [])):=by
 have hs:=sat0 w0 [(1,k0_),(2,k1_)] (by simp only [List.mem_cons,List.not_mem_nil,or_false];rintro x (rfl | rfl) <;> assumption)
 unfold slices_ContainsFunc_int_int.f at H
 refine enter Tryz.func96 rfl Tryz.ntmps96 rfl fun a hk=>sr fun _ hK1=>mv hk rfl fun a hk=>nx hK1 <| sr fun _ hK2=>mv hk rfl fun a hk=>mv hk rfl fun a hk=>?_
 obtain ⟨y3,h4,H⟩:=bind_some H
 refine sc rfl en114 hk rfl rfl rfl (slices_IndexFunc_int_int_t _ A0_ p0_ l0 _ v0_ (hs.hasD (k:=1) rfl) f1_ c1_ e1_ q1 k1_ t1_ (hs.hasD (k:=2) rfl) _ h4) ?_
 rintro _ w ⟨rfl,hG⟩ a hk
 have hs:=hs.call0 hG
 refine sv (.bool (decide (y3 ≥ 0))) hk rfl rfl rfl fun a hk=>mv hk rfl fun a hk=>nx hK2 <| wp_ret ?_
 obtain rfl:=osi H
 exact fin hk _ [(.bool (decide (y3 ≥ 0)))] rfl ⟨rfl,trivial⟩ ⟨rfl,(hs.pick [] rfl).dnil⟩
noncomputable def impl_areAll_int__c1.f (x0:Int) (q1:Int→Option (Bool)):Option (Bool) :=
  ((q1 x0).bind fun y3=>(some (!y3)))
theorem impl_areAll_int__c1_t (w0:World) (x0:Int) (b1_:Nat) (f1_:FuncId) (c1_:List Value) (e1_:Enters Tryz.prog f1_) (q1:Int→Option (Bool)) (k1_:Chunk) (t1_:∀ w,Has w k1_→∀ (z0:Int) (r:Bool),q1 z0=some r→Calls Tryz.prog f1_ (([vI iS z0]:List Value)++c1_).toArray w (Ret (fun v w2=>v = .bool r∧Sat [] w w2 [] []))) (w1_:Has w0 k1_) (h1_:Has w0 [(b1_,.cells #[.func (.func f1_) #[] c1_.toArray] 106 (0,0))]) (r:Bool) (H:impl_areAll_int__c1.f x0 q1=some r) :
    Calls Tryz.prog 97 #[vI iS x0,vP (some ⟨b1_,0,none⟩)] w0 (Ret (fun v w=>v = .bool r∧Sat [] w0 w [] [])):=by
 have hs:=sat0 w0 [(2,k1_),(1,[(b1_,.cells #[.func (.func f1_) #[] c1_.toArray] 106 (0,0))])] (by simp only [List.mem_cons,List.not_mem_nil,or_false];rintro x (rfl | rfl) <;> assumption)
 unfold impl_areAll_int__c1.f at H
 refine enter Tryz.func97 rfl Tryz.ntmps97 rfl fun a hk=>sr fun _ hK1=>mv hk rfl fun a hk=>nx hK1 <| sr fun _ hK2=>sl rfl hk rfl rfl rfl ag106 (box_cellD hs (k:=1) rfl rfl) fun a hk=>mv hk rfl fun a hk=>?_
 obtain ⟨y3,h4,H⟩:=bind_some H
 refine scv (vs:=([(vI iS x0)]:List Value)++c1_) rfl rfl e1_ hk rfl rfl rfl (t1_ _ (hs.hasD (k:=2) rfl) x0 _ h4) ?_
 rintro _ w ⟨rfl,hG⟩ a hk
 have hs:=hs.call0 hG
 refine sv (.bool (!y3)) hk rfl rfl rfl fun a hk=>mv hk rfl fun a hk=>nx hK2 <| wp_ret ?_
 obtain rfl:=osi H
 exact fin hk _ [(.bool (!y3))] rfl ⟨rfl,trivial⟩ ⟨rfl,(hs.pick [] rfl).dnil⟩
noncomputable def impl_areAll_int.f (l0:List Int) (q1:Int→Option (Bool)):Option (Bool) :=
  ((slices_ContainsFunc_int_int.f l0 (fun z0=>impl_areAll_int__c1.f z0 q1)).bind fun y4=>(some (!y4)))
theorem impl_areAll_int_t (w0:World) (A0_:Option Addr) (p0_:Nat) (l0:List Int) (k0_:Chunk) (v0_:View (Lay.int iS) A0_ p0_ l0 k0_) (w0_:Has w0 k0_) (f1_:FuncId) (c1_:List Value) (e1_:Enters Tryz.prog f1_) (q1:Int→Option (Bool)) (k1_:Chunk) (t1_:∀ w,Has w k1_→∀ (z0:Int) (r:Bool),q1 z0=some r→Calls Tryz.prog f1_ (([vI iS z0]:List Value)++c1_).toArray w (Ret (fun v w2=>v = .bool r∧Sat [] w w2 [] []))) (w1_:Has w0 k1_) (r:Bool) (H:impl_areAll_int.f l0 q1=some r) :
    Calls Tryz.prog 80 #[vL A0_ l0.length p0_,.func (.func f1_) #[] c1_.toArray] w0 (Ret (fun v w=>v = .bool r∧Sat [] w0 w [] [])):=by
 have hs:=sat0 w0 [(1,k0_),(2,k1_)] (by simp only [List.mem_cons,List.not_mem_nil,or_false];rintro x (rfl | rfl) <;> assumption)
 unfold impl_areAll_int.f at H
 refine enter Tryz.func80 rfl Tryz.ntmps80 rfl fun a hk=>sr fun _ hK1=>sbx 3 hs rfl hk rfl rfl rfl rfl fun b2 w a hk hs=>mv hk rfl fun a hk=>nx hK1 <| sr fun _ hK3=>mv hk rfl fun a hk=>smf (cs:=[vP (some ⟨b2,0,none⟩)]) rfl hk rfl rfl rfl fun a hk=>?_
 obtain ⟨y4,h5,H⟩:=bind_some H
 refine sc rfl en96 hk rfl rfl rfl (slices_ContainsFunc_int_int_t _ A0_ p0_ l0 _ v0_ (hs.hasD (k:=1) rfl) 97 [vP (some ⟨b2,0,none⟩)] en97 (fun z0=>impl_areAll_int__c1.f z0 q1) ([(b2,.cells #[.func (.func f1_) #[] c1_.toArray] 106 (0,0))]++k1_) (fun w hz z0 r h=>impl_areAll_int__c1_t w z0 _ f1_ c1_ e1_ q1 k1_ t1_ (Has.right hz) (Has.left hz) r h) (Has.app (hs.hasG (k:=3) rfl) (hs.hasD (k:=2) rfl)) _ h5) ?_
 rintro _ w ⟨rfl,hG⟩ a hk
 have hs:=hs.call0 hG
 refine sv (.bool (!y4)) hk rfl rfl rfl fun a hk=>mv hk rfl fun a hk=>nx hK3 <| wp_ret ?_
 obtain rfl:=osi H
 exact fin hk _ [(.bool (!y4))] rfl ⟨rfl,trivial⟩ ⟨rfl,(hs.pick [] rfl).dnil⟩
noncomputable def impl_within.f (x0:Int) (x1:Int) (x2:Int):Option (Bool) :=
  (((bif (decide (x1≤x0)) then (some (decide (x0≤x2))) else (some false)):Option (Bool)).bind fun u4=>(some u4))
theorem impl_within_t (w0:World) (x0:Int) (x1:Int) (x2:Int) (r:Bool) (H:impl_within.f x0 x1 x2=some r) :
    Calls Tryz.prog 98 #[vI iS x0,vI iS x1,vI iS x2] w0 (Ret (fun v w=>v = .bool r∧Sat [] w0 w [] [])):=by
 have hs:=sat0 w0 [] (by simp)
 unfold impl_within.f at H
 refine enter Tryz.func98 rfl Tryz.ntmps98 rfl fun a hk=>sr fun _ hK1=>mv hk rfl fun a hk=>nx hK1 <| sq fun _ hK2=>?_
 obtain ⟨o5,h6,HL7⟩:=bind_some H
 clear H
 obtain ⟨R8,hR8⟩:=nm fun a w=>∃ (u4:Bool),u4=o5∧Kn [(6,(.bool u4))] 15 a∧Sat [] w0 w [] []
 refine wp_cutq R8 ?_ ?_
 ·have H:=h6
  apply wp_region_lit
  refine mv hk rfl fun a hk=>mv hk rfl fun a hk=>sv (.bool (decide (x1≤x0))) hk rfl rfl rfl fun a hk=>mv hk rfl fun a hk=>?_
  rcases cond_some H with ⟨c9,H⟩ | ⟨c9,H⟩
  ·have hk:=hk.lit 10 c9 rfl
   refine mv hk rfl fun a hk=>mv hk rfl fun a hk=>sv (.bool (decide (x0≤x2))) hk rfl rfl rfl fun a hk=>sv (.bool (decide (x0≤x2))) hk rfl rfl rfl fun a hk=>mv hk rfl fun a hk=>?_
   show wpList _ _ _ [] _ _
   refine wpList_nil ?_
   obtain rfl:=osi H
   show R8 _ _
   rw [hR8]
   exact ⟨(decide (x0≤x2)),rfl,(hk.al rfl),(hs.pick [] rfl)⟩
  have hk:=hk.lit 10 c9 rfl
  refine sk hk rfl rfl rfl fun a hk=>sk hk rfl rfl rfl fun a hk=>sk hk rfl rfl rfl fun a hk=>sv (.bool false) hk rfl rfl rfl fun a hk=>mv hk rfl fun a hk=>?_
  show wpList _ _ _ [] _ _
  refine wpList_nil ?_
  obtain rfl:=osi H
  show R8 _ _
  rw [hR8]
  exact ⟨false,rfl,(hk.al rfl),(hs.pick [] rfl)⟩
 intro a w hR0
 rw [hR8] at hR0
 obtain ⟨u4,rfl,hk,hs⟩:=hR0
 have H:=HL7
 try dsimp only at H
 refine hK2 _ _ <| wp_ret ?_
 obtain rfl:=osi H
 exact fin hk _ [(.bool u4)] rfl ⟨rfl,trivial⟩ ⟨rfl,(hs.pick [] rfl).dnil⟩
noncomputable def impl_isLeaf.f (x0:Int):Option (Bool) :=
  ((impl_within.f x0 0 7).bind fun y3=>(some y3))
theorem impl_isLeaf_t (w0:World) (x0:Int) (r:Bool) (H:impl_isLeaf.f x0=some r) :
    Calls Tryz.prog 81 #[vI iS x0] w0 (Ret (fun v w=>v = .bool r∧Sat [] w0 w [] [])):=by
 have hs:=sat0 w0 [] (by simp)
 unfold impl_isLeaf.f at H
 refine enter Tryz.func81 rfl Tryz.ntmps81 rfl fun a hk=>sr fun _ hK1=>mv hk rfl fun a hk=>nx hK1 <| sr fun _ hK2=>mv hk rfl fun a hk=>?_
 obtain ⟨y3,h4,H⟩:=bind_some H
 refine sc rfl en98 hk rfl rfl rfl (impl_within_t _ x0 0 7 _ h4) ?_
 rintro _ w ⟨rfl,hG⟩ a hk
 have hs:=hs.call0 hG
 refine mv hk rfl fun a hk=>nx hK2 <| wp_ret ?_
 obtain rfl:=osi H
 exact fin hk _ [(.bool y3)] rfl ⟨rfl,trivial⟩ ⟨rfl,(hs.pick [] rfl).dnil⟩
noncomputable def impl_leavesOf.f (l0:List Int):Option (Int) :=
  (bif (decide ((l0.length:Int)>4096)) then (some 2) else (bif ((l0.length:Int) != 12) then (some 8) else ((impl_areAll_int.f l0 impl_isLeaf.f).bind fun y10=>(bif (!y10) then (some 4) else (some 0)))))
theorem impl_leavesOf_t (w0:World) (A0_:Option Addr) (p0_:Nat) (l0:List Int) (k0_:Chunk) (v0_:View (Lay.int iS) A0_ p0_ l0 k0_) (w0_:Has w0 k0_) (r:Int) (H:impl_leavesOf.f l0=some r) :
    Calls Tryz.prog 58 #[vL A0_ l0.length p0_] w0 (Ret (fun v w=>v=vI iS r∧Sat [] w0 w [] [])):=by
 have hs:=sat0 w0 [(1,k0_)] (by simp only [List.mem_cons,List.not_mem_nil,or_false];rintro x (rfl) <;> assumption)
 unfold impl_leavesOf.f at H
 refine enter Tryz.func58 rfl Tryz.ntmps58 rfl fun a hk=>sr fun _ hK1=>mv hk rfl fun a hk=>nx hK1 <| sq fun _ hK2=>wp_block <| sr fun _ hK3=>mv hk rfl fun a hk=>sle rfl hk rfl rfl rfl un22 fun a hk=>sv (.bool (decide ((l0.length:Int)>4096))) hk rfl rfl rfl fun a hk=>mv hk rfl fun a hk=>nx hK3 ?_
 rcases cond_some H with ⟨c4,H⟩ | ⟨c4,H⟩
 ·have hk:=hk.lit 3 c4 rfl
  refine cnd_true hk rfl rfl <| sr fun _ hK5=>mv hk rfl fun a hk=>nx hK5 <| wp_ret ?_
  obtain rfl:=osi H
  exact fin hk _ [(vI iS 2)] rfl ⟨rfl,trivial⟩ ⟨rfl,(hs.pick [] rfl).dnil⟩
 have hk:=hk.lit 3 c4 rfl
 refine cnd_false hk rfl rfl <| sr fun _ hK6=>mv hk rfl fun a hk=>sle rfl hk rfl rfl rfl un22 fun a hk=>sv (.bool ((l0.length:Int) != 12)) hk rfl rfl rfl fun a hk=>mv hk rfl fun a hk=>nx hK6 ?_
 rcases cond_some H with ⟨c7,H⟩ | ⟨c7,H⟩
 ·have hk:=hk.lit 7 c7 rfl
  refine cnd_true hk rfl rfl <| sr fun _ hK8=>mv hk rfl fun a hk=>nx hK8 <| wp_ret ?_
  obtain rfl:=osi H
  exact fin hk _ [(vI iS 8)] rfl ⟨rfl,trivial⟩ ⟨rfl,(hs.pick [] rfl).dnil⟩
 have hk:=hk.lit 7 c7 rfl
 refine cnd_false hk rfl rfl <| sr fun _ hK9=>mv hk rfl fun a hk=>?_
 obtain ⟨y10,h11,H⟩:=bind_some H
 refine sc rfl en80 hk rfl rfl rfl (impl_areAll_int_t _ A0_ p0_ l0 _ v0_ (hs.hasD (k:=1) rfl) 81 [] en81 impl_isLeaf.f [] (fun w _ z0 r h=>impl_isLeaf_t w z0 r h) (Has.nil _) _ h11) ?_
 rintro _ w ⟨rfl,hG⟩ a hk
 have hs:=hs.call0 hG
 refine sv (.bool (!y10)) hk rfl rfl rfl fun a hk=>mv hk rfl fun a hk=>nx hK9 ?_
 rcases cond_some H with ⟨c12,H⟩ | ⟨c12,H⟩
 ·have hk:=hk.lit 11 c12 rfl
  refine cnd_true hk rfl rfl <| sr fun _ hK13=>mv hk rfl fun a hk=>nx hK13 <| wp_ret ?_
  obtain rfl:=osi H
  exact fin hk _ [(vI iS 4)] rfl ⟨rfl,trivial⟩ ⟨rfl,(hs.pick [] rfl).dnil⟩
 have hk:=hk.lit 11 c12 rfl
 refine cnd_false hk rfl rfl <| wp_skip <| hK2 _ _ <| sr fun _ hK14=>mv hk rfl fun a hk=>nx hK14 ?_
 refine wp_ret ?_
 obtain rfl:=osi H
 exact fin hk _ [(vI iS 0)] rfl ⟨rfl,trivial⟩ ⟨rfl,(hs.pick [] rfl).dnil⟩
noncomputable def slices_Clone_int_int.f (l0:List Int):Option (List Int) :=
  (if l0.length≤1073741824 then (some l0) else none)
theorem slices_Clone_int_int_t (w0:World) (A0_:Option Addr) (p0_:Nat) (l0:List Int) (k0_:Chunk) (v0_:View (Lay.int iS) A0_ p0_ l0 k0_) (w0_:Has w0 k0_) (r:List Int) (H:slices_Clone_int_int.f l0=some r) :
    Calls Tryz.prog 59 #[vL A0_ l0.length p0_] w0 (Ret (fun v w=>∃ (A0:Option Addr) (p0:Nat) (k0:Chunk),v=vL A0 r.length p0∧Own (Lay.int iS) 3 A0 p0 r k0∧Sat [] w0 w [] [(0,k0)])):=by
 have hs:=sat0 w0 [(1,k0_)] (by simp only [List.mem_cons,List.not_mem_nil,or_false];rintro x (rfl) <;> assumption)
 unfold slices_Clone_int_int.f at H
 obtain ⟨c,H⟩:=ite_no H
 obtain rfl:=osi H
 refine enter Tryz.func59 rfl Tryz.ntmps59 rfl fun a hk=>sr fun _ hK1=>mv hk rfl fun a hk=>wpList_nil <| hK1 _ _ <| sq fun _ hK3=>sr fun _ hK2=>mv hk rfl fun a hk=>snl rfl hk rfl rfl rfl un22 fun a hk=>wpList_nil <| hK2 _ _ ?_
 cases A0_ with
 | none =>
   obtain rfl:=v0_.none_nil
   refine cnd_true hk rfl rfl <| sr fun _ hK4=>mv hk rfl fun a hk=>wpList_nil <| hK4 _ _ <| wp_ret ?_
   have hs:=hs.addNil 9
   exact fin hk _ [(vL none 0 0)] rfl ⟨rfl,trivial⟩ ⟨none,0,[],rfl,Own.nil _ _,(hs.pick [(0,9)] rfl).dnil⟩
 | some A0_ =>
   refine cnd_false hk rfl rfl <| wp_skip <| hK3 _ _ <| sr fun _ hK5=>sbs0 2 (Lay.int iS) hs rfl hk rfl rfl un22 sz3 fun b k w a hk o hs=>mv hk rfl fun a hk=>sap 2 (xs:=([]:List Int)) (ys:=l0) (flat_flat:((Lay.int iS)).Flat) hs rfl o v0_ (hs.hasD (k:=1) rfl) rfl hk rfl rfl rfl rfl rfl rfl un22 mk3 rfl rfl rfl (by simpa using c) fun A p k w a hk o hs=>mv hk rfl fun a hk=>wpList_nil ?_
   refine hK5 _ _ <| wp_ret ?_
   exact fin hk _ [(vL A ([]++l0).length p)] rfl ⟨rfl,trivial⟩ ⟨A,p,_,rfl,o,(hs.pick [(0,2)] rfl).dnil⟩
noncomputable def impl_NewOram.f (l0:List Int):Option (S_Oram×Int) :=
  ((impl_leavesOf.f l0).bind fun y5=>(bif (y5 != 0) then (some ((⟨([]:List Int),([]:List S_Block),([]:List (List S_Block))⟩:S_Oram),y5)) else ((slices_Clone_int_int.f l0).bind fun y_r11_1_1=>(if 0≤(15:Int)∧(15:Int)≤1073741824 then (some ((⟨y_r11_1_1,([]:List S_Block),(List.replicate ((15:Int)).toNat ([]:List S_Block))⟩:S_Oram),0)) else none))))
theorem impl_NewOram_t (w0:World) (A0_:Option Addr) (p0_:Nat) (l0:List Int) (k0_:Chunk) (v0_:View (Lay.int iS) A0_ p0_ l0 k0_) (w0_:Has w0 k0_) (r:S_Oram×Int) (H:impl_NewOram.f l0=some r) :
    Calls Tryz.prog 34 #[vL A0_ l0.length p0_] w0 (Ret (fun v w=>∃ (A0:Option Addr) (p0:Nat) (k0:Chunk),∃ (A1:Option Addr) (p1:Nat) (k1:Chunk),∃ (A2:Option Addr) (p2:Nat) (k2:Chunk),v = .tuple #[.agg #[vL A0 r.1.Pos.length p0,vL A1 r.1.Stash.length p1,vL A2 r.1.Buckets.length p2],vI iS r.2]∧Own (Lay.int iS) 3 A0 p0 r.1.Pos k0∧Own L_Block 100 A1 p1 r.1.Stash k1∧Own (Lay.sl L_Block 100) 42 A2 p2 r.1.Buckets k2∧Sat [] w0 w [] [(0,k0),(1,k1),(2,k2)])):=by
 have hs:=sat0 w0 [(1,k0_)] (by simp only [List.mem_cons,List.not_mem_nil,or_false];rintro x (rfl) <;> assumption)
 unfold impl_NewOram.f at H
 refine enter Tryz.func34 rfl Tryz.ntmps34 rfl fun a hk=>sr fun _ hK1=>salx 2 hs rfl hk rfl rfl ze45 rfl fun b2 w a hk hs=>mv hk rfl fun a hk=>nx hK1 <| sq fun _ hK3=>sr fun _ hK4=>mv hk rfl fun a hk=>?_
 obtain ⟨y5,h6,H⟩:=bind_some H
 refine sc rfl en58 hk rfl rfl rfl (impl_leavesOf_t _ A0_ p0_ l0 _ v0_ (hs.hasD (k:=1) rfl) _ h6) ?_
 rintro _ w ⟨rfl,hG⟩ a hk
 have hs:=hs.call0 hG
 refine mv hk rfl fun a hk=>nx hK4 <| sr fun _ hK7=>mv hk rfl fun a hk=>sv (.bool (y5 != 0)) hk rfl rfl rfl fun a hk=>nx hK7 ?_
 rcases cond_some H with ⟨c8,H⟩ | ⟨c8,H⟩
 ·have hk:=hk.lit 8 c8 rfl
  refine cnd_true hk rfl rfl <| sr fun _ hK9=>sbd (pv:=[]) rfl hk rfl rfl rfl bd45_1 fun a hk=>mv hk rfl fun a hk=>ssw 2 hs rfl rfl hk rfl rfl rfl rfl sz45 (by simp [Value.oneCell']) rfl fun w a hk hs=>mv hk rfl fun a hk=>nx hK9 <| wp_ret ?_
  obtain rfl:=osi H
  have hs:=hs.addNil 3
  have hs:=hs.addNil 4
  have hs:=hs.addNil 5
  exact fin hk _ [(.agg #[vL none 0 0,vL none 0 0,vL none 0 0]),(vI iS y5)] rfl ⟨⟨_,rfl,run_loadN ag45 sz45 (box_cells hs (k:=2) rfl)⟩,⟨rfl,trivial⟩⟩ ⟨none,0,[],none,0,[],none,0,[],rfl,Own.nil _ _,Own.nil _ _,Own.nil _ _,(hs.pick [(0,3),(1,4),(2,5)] rfl).dnil⟩
 have hk:=hk.lit 8 c8 rfl
 refine cnd_false hk rfl rfl <| wp_skip <| hK3 _ _ <| sq fun _ hK10=>?_
 obtain ⟨y_r11_1_1,h_r11_1_2,H⟩:=bind_some H
 obtain ⟨c_r11_2_1,H⟩:=ite_no H
 obtain ⟨R12,hR12⟩:=nm fun a w=>∃ (A_r11_1_3:Option Addr) (p_r11_1_4:Nat) (b_r11_2_2:Nat) (k_r11_1_5:Chunk) (k_r11_2_3:Chunk),Kn [(2,(vP (some ⟨b2,0,none⟩))),(3,(vI iS 0))] 15 a∧Sat [] w0 w [(1,k0_)] [(2,[(b2,.cells #[vL A_r11_1_3 y_r11_1_1.length p_r11_1_4,vL none 0 0,vL (some ⟨b_r11_2_2,0,none⟩) (((15:Int)).toNat) (((15:Int)).toNat)] 45 (0,0))]),(106021,k_r11_1_5),(106041,k_r11_2_3)]∧Own (Lay.int iS) 3 A_r11_1_3 p_r11_1_4 y_r11_1_1 k_r11_1_5∧Own (Lay.sl L_Block 100) 42 (some ⟨b_r11_2_2,0,none⟩) (((15:Int)).toNat) (List.replicate ((15:Int)).toNat ([]:List S_Block)) k_r11_2_3∧(List.replicate ((15:Int)).toNat ([]:List S_Block)).length=(((15:Int)).toNat)
 refine wp_cutq R12 ?_ ?_
 ·skip
  refine wp_region_tree (.q 0 (.alt 1 (.alt 2 (.alt 3 (.alt 4 (.last 5) .stop) .stop) .stop) (.alt 2 (.alt 1 (.alt 3 (.alt 4 (.last 5) .stop) .stop) .stop) .stop))) mo (by kernel_rfl) (hs.pick [] rfl) fun _=>?_
  have hs:=hs.drew
  refine tqm hk rfl fun a hk=>tsst hk rfl rfl (fun K_r11_1 hK_r11_1 w hF=>?_) ?_
  ·skip
   have hs:=hs.f hF
   refine sc rfl en59 hk rfl rfl rfl (slices_Clone_int_int_t _ A0_ p0_ l0 _ v0_ (hs.hasD (k:=1) rfl) _ h_r11_1_2) ?_
   rintro _ w ⟨A_r11_1_3,p_r11_1_4,k_r11_1_5,rfl,o_r11_1_6,hG⟩ a hk
   have hs:=hs.call0k hG [106021] rfl
   refine se (hs.pick [] rfl) hk (hK_r11_1 _ _ ?_)
   refine tss hs hk rfl rfl fun _ hK_r11_2 w hs=>smk 106041 (Lay.sl L_Block 100) hs rfl hk rfl rfl rfl rfl un43 mk42 lz42 rfl rfl c_r11_2_1.1 c_r11_2_1.2 fun b_r11_2_2 k_r11_2_3 w a hk o_r11_2_4 hs=>?_
   have lh_r11_2_5:(List.replicate ((15:Int)).toNat ([]:List S_Block)).length=((15:Int)).toNat:=List.length_replicate
   refine se (hs.pick [] rfl) hk (hK_r11_2 _ _ ?_)
   refine tss hs hk rfl rfl fun _ hK_r11_3 w hs=>sbd (pv:=[(0,(vL A_r11_1_3 y_r11_1_1.length p_r11_1_4)),(1,(vL none 0 0)),(2,(vL (some ⟨b_r11_2_2,0,none⟩) (((15:Int)).toNat) (((15:Int)).toNat)))]) rfl hk rfl rfl rfl (bd45_0 A_r11_1_3 y_r11_1_1.length p_r11_1_4 none 0 0 (some ⟨b_r11_2_2,0,none⟩) (((15:Int)).toNat) (((15:Int)).toNat)) fun a hk=>se (hs.pick [] rfl) hk (hK_r11_3 _ _ ?_)
   refine tss hs hk rfl rfl fun _ hK_r11_4 w hs=>ssw 2 hs rfl rfl hk rfl rfl rfl rfl sz45 (by simp [Value.oneCell']) rfl fun w a hk hs=>se (hs.pick [] rfl) hk (hK_r11_4 _ _ ?_)
   refine tlst hk rfl rfl fun K_r11_5 hK_r11_5 w hF=>?_
   have hs:=hs.f hF
   refine mv hk rfl fun a hk=>se trivial hk (hK_r11_5 _ _ fun w hF=>?_)
   have hs:=hs.f hF
   show R12 _ _
   rw [hR12]
   exact ⟨A_r11_1_3,p_r11_1_4,b_r11_2_2,k_r11_1_5,k_r11_2_3,(hk.al rfl),(hs.pick [(2,2),(106021,106021),(106041,106041)] rfl),o_r11_1_6,o_r11_2_4,lh_r11_2_5⟩
  refine tss hs hk rfl rfl fun _ hK_r11_2 w hs=>smk 106041 (Lay.sl L_Block 100) hs rfl hk rfl rfl rfl rfl un43 mk42 lz42 rfl rfl c_r11_2_1.1 c_r11_2_1.2 fun b_r11_2_2 k_r11_2_3 w a hk o_r11_2_4 hs=>?_
  have lh_r11_2_5:(List.replicate ((15:Int)).toNat ([]:List S_Block)).length=((15:Int)).toNat:=List.length_replicate
  refine se (hs.pick [] rfl) hk (hK_r11_2 _ _ ?_)
  refine tss hs hk rfl rfl fun _ hK_r11_1 w hs=>sc rfl en59 hk rfl rfl rfl (slices_Clone_int_int_t _ A0_ p0_ l0 _ v0_ (hs.hasD (k:=1) rfl) _ h_r11_1_2) ?_
  rintro _ w ⟨A_r11_1_3,p_r11_1_4,k_r11_1_5,rfl,o_r11_1_6,hG⟩ a hk
  have hs:=hs.call0k hG [106021] rfl
  refine se (hs.pick [] rfl) hk (hK_r11_1 _ _ ?_)
  refine tss hs hk rfl rfl fun _ hK_r11_3 w hs=>sbd (pv:=[(0,(vL A_r11_1_3 y_r11_1_1.length p_r11_1_4)),(1,(vL none 0 0)),(2,(vL (some ⟨b_r11_2_2,0,none⟩) (((15:Int)).toNat) (((15:Int)).toNat)))]) rfl hk rfl rfl rfl (bd45_0 A_r11_1_3 y_r11_1_1.length p_r11_1_4 none 0 0 (some ⟨b_r11_2_2,0,none⟩) (((15:Int)).toNat) (((15:Int)).toNat)) fun a hk=>se (hs.pick [] rfl) hk (hK_r11_3 _ _ ?_)
  refine tss hs hk rfl rfl fun _ hK_r11_4 w hs=>ssw 2 hs rfl rfl hk rfl rfl rfl rfl sz45 (by simp [Value.oneCell']) rfl fun w a hk hs=>se (hs.pick [] rfl) hk (hK_r11_4 _ _ ?_)
  refine tlst hk rfl rfl fun K_r11_5 hK_r11_5 w hF=>?_
  have hs:=hs.f hF
  refine mv hk rfl fun a hk=>se trivial hk (hK_r11_5 _ _ fun w hF=>?_)
  have hs:=hs.f hF
  show R12 _ _
  rw [hR12]
  exact ⟨A_r11_1_3,p_r11_1_4,b_r11_2_2,k_r11_1_5,k_r11_2_3,(hk.al rfl),(hs.pick [(2,2),(106021,106021),(106041,106041)] rfl),o_r11_1_6,o_r11_2_4,lh_r11_2_5⟩
 intro a w hR0
 rw [hR12] at hR0
 obtain ⟨A_r11_1_3,p_r11_1_4,b_r11_2_2,k_r11_1_5,k_r11_2_3,hk,hs,o_r11_1_6,o_r11_2_4,lh_r11_2_5⟩:=hR0
 refine hK10 _ _ <| wp_ret ?_
 obtain rfl:=osi H
 have hs:=hs.addNil 7
 exact fin hk _ [(.agg #[vL A_r11_1_3 y_r11_1_1.length p_r11_1_4,vL none 0 0,vL (some ⟨b_r11_2_2,0,none⟩) (((15:Int)).toNat) (((15:Int)).toNat)]),(vI iS 0)] rfl ⟨⟨_,rfl,run_loadN ag45 sz45 (box_cells hs (k:=2) rfl)⟩,⟨rfl,trivial⟩⟩ ⟨A_r11_1_3,p_r11_1_4,_,none,0,[],(some ⟨b_r11_2_2,0,none⟩),(((15:Int)).toNat),_,(by first | (rw [lh_r11_2_5];done) | (rw [lh_r11_2_5];rfl)),o_r11_1_6,Own.nil _ _,o_r11_2_4,(hs.pick [(0,106021),(1,7),(2,106041)] rfl).dnil⟩
noncomputable def impl_NewEnc.f (l0:List Int):Option (S_Enc×Int) :=
  ((impl_NewOram.f l0).bind fun y4=>(bif (y4.2 != 0) then (some ((⟨([]:List Int),(⟨([]:List Int),([]:List S_Block),([]:List (List S_Block))⟩:S_Oram)⟩:S_Enc),y4.2)) else (if 0≤(11:Int)∧(11:Int)≤1073741824 then (some ((⟨(List.replicate ((11:Int)).toNat (0:Int)),y4.1⟩:S_Enc),0)) else none)))
theorem impl_NewEnc_t (w0:World) (A0_:Option Addr) (p0_:Nat) (l0:List Int) (k0_:Chunk) (v0_:View (Lay.int iS) A0_ p0_ l0 k0_) (w0_:Has w0 k0_) (r:S_Enc×Int) (H:impl_NewEnc.f l0=some r) :
    Calls Tryz.prog 15 #[vL A0_ l0.length p0_] w0 (Ret (fun v w=>∃ (A0:Option Addr) (p0:Nat) (k0:Chunk),∃ (A1:Option Addr) (p1:Nat) (k1:Chunk),∃ (A2:Option Addr) (p2:Nat) (k2:Chunk),∃ (A3:Option Addr) (p3:Nat) (k3:Chunk),v = .tuple #[.agg #[vL A0 r.1.Keys.length p0,vL A1 r.1.Oram.Pos.length p1,vL A2 r.1.Oram.Stash.length p2,vL A3 r.1.Oram.Buckets.length p3],vI iS r.2]∧Own (Lay.int iS) 3 A0 p0 r.1.Keys k0∧Own (Lay.int iS) 3 A1 p1 r.1.Oram.Pos k1∧Own L_Block 100 A2 p2 r.1.Oram.Stash k2∧Own (Lay.sl L_Block 100) 42 A3 p3 r.1.Oram.Buckets k3∧Sat [] w0 w [] [(0,k0),(1,k1),(2,k2),(3,k3)])):=by
 have hs:=sat0 w0 [(1,k0_)] (by simp only [List.mem_cons,List.not_mem_nil,or_false];rintro x (rfl) <;> assumption)
 unfold impl_NewEnc.f at H
 refine enter Tryz.func15 rfl Tryz.ntmps15 rfl fun a hk=>sr fun _ hK1=>salx 2 hs rfl hk rfl rfl ze47 rfl fun b2 w a hk hs=>mv hk rfl fun a hk=>nx hK1 <| sr fun _ hK3=>mv hk rfl fun a hk=>?_
 obtain ⟨y4,h5,H⟩:=bind_some H
 refine sc rfl en34 hk rfl rfl rfl (impl_NewOram_t _ A0_ p0_ l0 _ v0_ (hs.hasD (k:=1) rfl) _ h5) ?_
 rintro _ w ⟨A6,p7,k8,A10,p11,k12,A14,p15,k16,rfl,o9,o13,o17,hG⟩ a hk
 have hs:=hs.call0k hG [3,4,5] rfl
 refine mv hk rfl fun a hk=>sv (.agg #[vL A6 y4.1.Pos.length p7,vL A10 y4.1.Stash.length p11,vL A14 y4.1.Buckets.length p15]) hk rfl rfl rfl fun a hk=>sv (vI iS y4.2) hk rfl rfl rfl fun a hk=>salx 6 hs rfl hk rfl rfl ze45 rfl fun b18 w a hk hs=>ssw 6 hs rfl rfl hk rfl rfl rfl rfl sz45 (by simp [Value.oneCell']) rfl fun w a hk hs=>mv hk rfl fun a hk=>nx hK3 <| sq fun _ hK19=>sr fun _ hK20=>mv hk rfl fun a hk=>sv (.bool (y4.2 != 0)) hk rfl rfl rfl fun a hk=>nx hK20 ?_
 rcases cond_some H with ⟨c21,H⟩ | ⟨c21,H⟩
 ·have hk:=hk.lit 12 c21 rfl
  refine cnd_true hk rfl rfl <| sr fun _ hK22=>sbd (pv:=[]) rfl hk rfl rfl rfl bd47_2 fun a hk=>mv hk rfl fun a hk=>ssw 2 hs rfl rfl hk rfl rfl rfl rfl sz47 (by simp [Value.oneCell']) rfl fun w a hk hs=>mv hk rfl fun a hk=>nx hK22 <| wp_ret ?_
  obtain rfl:=osi H
  have hs:=hs.addNil 7
  have hs:=hs.addNil 8
  have hs:=hs.addNil 9
  have hs:=hs.addNil 10
  exact fin hk _ [(.agg #[vL none 0 0,vL none 0 0,vL none 0 0,vL none 0 0]),(vI iS y4.2)] rfl ⟨⟨_,rfl,run_loadN ag47 sz47 (box_cells hs (k:=2) rfl)⟩,⟨rfl,trivial⟩⟩ ⟨none,0,[],none,0,[],none,0,[],none,0,[],rfl,Own.nil _ _,Own.nil _ _,Own.nil _ _,Own.nil _ _,(hs.pick [(0,7),(1,8),(2,9),(3,10)] rfl).dnil⟩
 have hk:=hk.lit 12 c21 rfl
 refine cnd_false hk rfl rfl <| wp_skip <| hK19 _ _ <| sq fun _ hK23=>wp_region_tree (.q 1 (.alt 0 (.alt 2 (.alt 3 (.last 4) .stop) .stop) .stop)) mo (by kernel_rfl) (hs.pick [(6,6),(5,5),(4,4),(3,3)] rfl) fun _=>?_
 have hs:=hs.drew
 refine tqst _ hk rfl rfl rfl rfl (fun w hs=>sln [vL A6 y4.1.Pos.length p7,vL A10 y4.1.Stash.length p11,vL A14 y4.1.Buckets.length p15] rfl hk rfl rfl rfl ag45 sz45 (box_cells hs (k:=6) rfl) fun a hk=>qe hk) fun a hk=>tss hs hk rfl rfl fun _ hK_r24_0 w hs=>?_
 obtain ⟨c25,H⟩:=ite_no H
 refine smk 12 (Lay.int iS) hs rfl hk rfl rfl rfl rfl un22 mk3 lz3 rfl rfl c25.1 c25.2 fun b26 k27 w a hk o28 hs=>?_
 have lh29:(List.replicate ((11:Int)).toNat (0:Int)).length=((11:Int)).toNat:=List.length_replicate
 refine se (hs.pick [(6,6),(5,5),(4,4),(3,3)] rfl) hk (hK_r24_0 _ _ ?_)
 refine tss hs hk rfl rfl fun _ hK_r24_2 w hs=>sbd (pv:=[(0,(vL (some ⟨b26,0,none⟩) (((11:Int)).toNat) (((11:Int)).toNat))),(1,(.agg #[vL A6 y4.1.Pos.length p7,vL A10 y4.1.Stash.length p11,vL A14 y4.1.Buckets.length p15]))]) rfl hk rfl rfl rfl (bd47_3 (some ⟨b26,0,none⟩) (((11:Int)).toNat) (((11:Int)).toNat) A6 y4.1.Pos.length p7 A10 y4.1.Stash.length p11 A14 y4.1.Buckets.length p15) fun a hk=>se (hs.pick [(6,6),(5,5),(4,4),(3,3)] rfl) hk (hK_r24_2 _ _ ?_)
 refine tss hs hk rfl rfl fun _ hK_r24_3 w hs=>ssw 2 hs rfl rfl hk rfl rfl rfl rfl sz47 (by simp [Value.oneCell']) rfl fun w a hk hs=>se (hs.pick [(6,6),(5,5),(4,4),(3,3)] rfl) hk (hK_r24_3 _ _ ?_)
 refine tlst hk rfl rfl fun K_r24_4 hK_r24_4 w hF=>?_
 have hs:=hs.f hF
 refine mv hk rfl fun a hk=>se trivial hk (hK_r24_4 _ _ fun w hF=>?_)
 have hs:=hs.f hF
 refine hK23 _ _ <| wp_ret ?_
 obtain rfl:=osi H
 exact fin hk _ [(.agg #[vL (some ⟨b26,0,none⟩) (((11:Int)).toNat) (((11:Int)).toNat),vL A6 y4.1.Pos.length p7,vL A10 y4.1.Stash.length p11,vL A14 y4.1.Buckets.length p15]),(vI iS 0)] rfl ⟨⟨_,rfl,run_loadN ag47 sz47 (box_cells hs (k:=2) rfl)⟩,⟨rfl,trivial⟩⟩ ⟨(some ⟨b26,0,none⟩),(((11:Int)).toNat),_,A6,p7,_,A10,p11,_,A14,p15,_,(by first | (rw [lh29];done) | (rw [lh29];rfl)),o28,o9,o13,o17,(hs.pick [(0,12),(1,3),(2,4),(3,5)] rfl).dnil⟩
noncomputable def impl_NewDevice.f  : Option (S_Device) :=
  (if 0≤(40:Int)∧(40:Int)≤1073741824 then (some (⟨(List.replicate ((40:Int)).toNat ByteArray.empty),([]:List S_Io)⟩:S_Device)) else none)
theorem impl_NewDevice_t (w0:World)  (r:S_Device) (H:impl_NewDevice.f  = some r) :
    Calls Tryz.prog 16 #[] w0 (Ret (fun v w=>∃ (A0:Option Addr) (p0:Nat) (k0:Chunk),∃ (A1:Option Addr) (p1:Nat) (k1:Chunk),v = .agg #[vL A0 r.Sure.length p0,vL A1 r.Unsure.length p1]∧Own Lay.str 9 A0 p0 r.Sure k0∧Own L_Io 84 A1 p1 r.Unsure k1∧Sat [] w0 w [] [(0,k0),(1,k1)])):=by
 have hs:=sat0 w0 [] (by simp)
 unfold impl_NewDevice.f at H
 refine enter Tryz.func16 rfl Tryz.ntmps16 rfl fun a hk=>sr fun _ hK1=>salx 1 hs rfl hk rfl rfl ze28 rfl fun b2 w a hk hs=>nx hK1 <| sr fun _ hK3=>?_
 obtain ⟨c4,H⟩:=ite_no H
 refine smk 2 Lay.str hs rfl hk rfl rfl rfl rfl un25 mk9 lz9 rfl rfl c4.1 c4.2 fun b5 k6 w a hk o7 hs=>?_
 have lh8:(List.replicate ((40:Int)).toNat ByteArray.empty).length=((40:Int)).toNat:=List.length_replicate
 refine sbd (pv:=[(0,(vL (some ⟨b5,0,none⟩) (((40:Int)).toNat) (((40:Int)).toNat)))]) rfl hk rfl rfl rfl (bd28_24 (some ⟨b5,0,none⟩) (((40:Int)).toNat) (((40:Int)).toNat)) fun a hk=>ssw 1 hs rfl rfl hk rfl rfl rfl rfl sz28 (by simp [Value.oneCell']) rfl fun w a hk hs=>nx hK3 <| wp_ret ?_
 obtain rfl:=osi H
 have hs:=hs.addNil 3
 exact fin hk _ [(.agg #[vL (some ⟨b5,0,none⟩) (((40:Int)).toNat) (((40:Int)).toNat),vL none 0 0])] rfl ⟨⟨_,rfl,run_loadN ag28 sz28 (box_cells hs (k:=1) rfl)⟩,trivial⟩ ⟨(some ⟨b5,0,none⟩),(((40:Int)).toNat),_,none,0,[],(by first | (rw [lh8];done) | (rw [lh8];rfl)),o7,Own.nil _ _,(hs.pick [(0,2),(1,3)] rfl).dnil⟩
end Go.Proofs.YteklgnhfgdhdiaaGreat
