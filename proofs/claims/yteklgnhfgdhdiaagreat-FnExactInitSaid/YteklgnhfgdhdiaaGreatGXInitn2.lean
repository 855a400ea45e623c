/- Further functions. -/
import Derived.Test.YteklgnhfgdhdiaaGreatGXInitn1
namespace Go.Proofs.YteklgnhfgdhdiaaGreat
open Go Go.Z Go.Proofs Go.MuLone Go.ChangeShapes Go.WideShapes Go.ChangeAt Go.RowKit
set_option linter.unusedVariables false
set_option linter.unusedSimpArgs false
set_option maxRecDepth 100000
set_option maxHeartbeats 0
open Go.IntKind renaming wrap → wR, i64 → iS, u32 → iU, u8 → iB
open Go.Value renaming int → vI, string → vS, slice → vL, pointer → vP
open BitVec renaming ofInt → bO
noncomputable def impl_xor.s0 (x0:ByteArray) (x1:ByteArray) (u12:List Int) (u16:Int):Option (((List Int)×Int) ⊕ Ex ((List Int)) (ByteArray)) :=
  (bif (decide (u16<((bytesOf x0).length:Int))) then (if 0≤u16∧u16<((bytesOf x0).length:Int) then (if 0≤u16∧u16<(x1.size:Int) then (if 0≤u16∧u16<((bytesOf x0).length:Int) then (some (.inl ((u12.set u16.toNat (wR iB ((bO 8 (u12.getD u16.toNat 0) ^^^ bO 8 (byteAt x1 u16)).toNat:Int))),(w64 (u16+1))))) else none) else none) else none) else (some (.inr (.out u12))))
noncomputable def impl_xor.f (x0:ByteArray) (x1:ByteArray):Option (ByteArray) :=
  (if x0.size≤1073741824 then ((loopO (fun s=>impl_xor.s0 x0 x1 s.1 s.2) ((bytesOf x0),0)).bind fun o=>match o with | .out u17=>(some (strOfNums u17)) | .ret r=>(some r)) else none)
theorem impl_xor_t (w0:World) (x0:ByteArray) (x1:ByteArray) (r:ByteArray) (H:impl_xor.f x0 x1=some r) :
    Calls Tryz.prog 100 #[vS x0,vS x1] w0 (Ret (fun v w=>v=vS r∧Sat [] w0 w [] [])):=by
 have hs:=sat0 w0 [] (by simp)
 unfold impl_xor.f at H
 refine enter Tryz.func100 rfl Tryz.ntmps100 rfl fun a hk=>sr fun _ hK1=>mv hk rfl fun a hk=>nx hK1 <| sr fun _ hK2=>mv hk rfl fun a hk=>?_
 obtain ⟨c3,H⟩:=ite_no H
 refine scb 1 hs rfl hk rfl rfl rfl un9 un101 un5 c3 fun b4 p5 k6 w a hk o7 hs=>mv hk rfl fun a hk=>nx hK2 <| sq fun _ hK8=>sr fun _ hK9=>mv hk rfl fun a hk=>sle rfl hk rfl rfl rfl un101 fun a hk=>mv hk rfl fun a hk=>nx hK9 ?_
 obtain ⟨o21,h22,HL23⟩:=bind_some H
 clear H
 obtain ⟨R24,hR24⟩:=nm fun a w=>∃ (u17:List Int) (k18:Chunk),o21 = .out u17∧Kn [(5,(vL (some ⟨b4,0,none⟩) (bytesOf x0).length p5))] 26 a∧Sat [] w0 w [] [(1,k18)]∧OwnM (Lay.int iB) 5 (some ⟨b4,0,none⟩) p5 u17 k18∧u17.length=(bytesOf x0).length
 refine wp_cutq R24 ?_ ?_
 ·refine wp_block ?_
  obtain ⟨fu26,h22⟩:=loopO_some h22
  obtain ⟨I25,hI25⟩:=nm fun fu a w=>∃ (u12:List Int) (u16:Int) (k13:Chunk),loopN (fun s=>impl_xor.s0 x0 x1 s.1 s.2) fu (u12,u16)=some o21∧Kn [(1,(vS x1)),(5,(vL (some ⟨b4,0,none⟩) (bytesOf x0).length p5)),(10,(vI iS ((bytesOf x0).length:Int))),(11,(vI iS u16))] 26 a∧Sat [] w0 w [] [(1,k13)]∧OwnM (Lay.int iB) 5 (some ⟨b4,0,none⟩) p5 u12 k13∧u12.length=(bytesOf x0).length
  refine wp_loop_ghost I25 fu26 ?_ ?_
  ·rw [hI25]
   exact ⟨_,_,_,h22,(hk.al rfl),(hs.pick [(1,1)] rfl),o7,rfl⟩
  clear h22 hk hs
  intro fu26 a w hI0
  rw [hI25] at hI0
  obtain ⟨u12,u16,k13,hi,hk,hs,o14,lh15⟩:=hI0
  obtain ⟨x27,H,h28⟩:=loop_round hi
  try dsimp only at H
  unfold impl_xor.s0 at H
  refine sr fun _ hK29=>sv (.bool (decide (u16<((bytesOf x0).length:Int)))) hk rfl rfl rfl fun a hk=>nx hK29 <| sq fun _ hK30=>?_
  rcases cond_some H with ⟨c31,H⟩ | ⟨c31,H⟩
  ·have hk:=hk.lit 12 c31 rfl
   refine cnd_true hk rfl rfl <| wp_skip <| hK30 _ _ <| sq fun _ hK32=>wp_block ?_
   refine sr fun _ hK33=>mv hk rfl fun a hk=>mv hk rfl fun a hk=>nx hK33 <| wp_region_tree (.q 0 (.q 1 (.q 2 (.q 3 (.q 4 (.alt 5 (.alt 6 (.alt 7 (.alt 8 (.last 9) .stop) .stop) .stop) .stop)))))) mo (by kernel_rfl) (hs.pick [(1,1)] rfl) fun _=>?_
   have hs:=hs.drew
   refine tqm hk rfl fun a hk=>tqm hk rfl fun a hk=>?_
   obtain ⟨c35,H⟩:=ite_no H
   obtain ⟨b36,q37,hAc35⟩:=(o14.view).some_ u16 c35.1 (by rw [lh15];exact c35.2)
   refine tqst _ hk rfl rfl rfl rfl (fun w hs=>si rfl hk rfl rfl rfl rfl un101 sz5 c35.1 c35.2 hAc35 fun a hk=>qe hk) fun a hk=>?_
   obtain ⟨_,rfl,e38⟩:=(o14.view).at_ 0 u16 c35.1 (by rw [lh15];exact c35.2)
   refine tqst _ hk rfl rfl rfl rfl (fun w hs=>sl (v:=(vI iB (u12.getD u16.toNat 0))) rfl hk rfl rfl rfl ag5 ((e38 0 _ rfl).cell (hs.hasG (k:=1) rfl)) fun a hk=>qe hk) fun a hk=>tqm hk rfl fun a hk=>tss hs hk rfl rfl fun _ hK_r34_5 w hs=>mv hk rfl fun a hk=>se (hs.pick [(1,1)] rfl) hk (hK_r34_5 _ _ ?_)
   refine tss hs hk rfl rfl fun _ hK_r34_6 w hs=>?_
   obtain ⟨c39,H⟩:=ite_no H
   refine six rfl hk rfl rfl rfl rfl un9 c39.1 c39.2 fun a hk=>se (hs.pick [(1,1)] rfl) hk (hK_r34_6 _ _ ?_)
   refine tss hs hk rfl rfl fun _ hK_r34_7 w hs=>sv (vI iB (bix1 (u12.getD u16.toNat 0) (byteAt x1 u16))) hk rfl rfl rfl fun a hk=>se (hs.pick [(1,1)] rfl) hk (hK_r34_7 _ _ ?_)
   refine tss hs hk rfl rfl fun _ hK_r34_8 w hs=>?_
   obtain ⟨c40,H⟩:=ite_no H
   obtain ⟨b41,q42,hAc40⟩:=(o14.view).some_ u16 c40.1 (by rw [lh15];exact c40.2)
   refine si rfl hk rfl rfl rfl rfl un101 sz5 c40.1 c40.2 hAc40 fun a hk=>se (hs.pick [(1,1)] rfl) hk (hK_r34_8 _ _ ?_)
   refine tlst hk rfl rfl fun K_r34_9 hK_r34_9 w hF=>?_
   have hs:=hs.f hF
   refine sob 1 (bix1 (u12.getD u16.toNat 0) (byteAt x1 u16)) hs rfl o14 c40.1 (by rw [lh15];exact c40.2) rfl hk rfl rfl rfl rfl rfl sz5 rfl rfl rfl ⟨rfl,rfl⟩ fun k43 w a hk o44 hs=>?_
   have lh45:(u12.set u16.toNat (bix1 (u12.getD u16.toNat 0) (byteAt x1 u16))).length=(bytesOf x0).length:=by rw [List.length_set];exact lh15
   refine se trivial hk (hK_r34_9 _ _ fun w hF=>?_)
   have hs:=hs.f hF
   refine hK32 _ _ ?_
   apply wp_region_lit
   refine sv (vI iS (w64 (u16+1))) hk rfl rfl rfl fun a hk=>mv hk rfl fun a hk=>?_
   show wpList _ _ _ [] _ _
   refine wpList_nil ?_
   obtain rfl:=osi H
   obtain ⟨m46,hmm46,h28⟩:=h28
   show ∃ n',n'<_∧I25 n' _ _
   refine ⟨m46,hmm46,?_⟩
   rw [hI25]
   exact ⟨_,_,_,h28,(hk.al rfl),(hs.pick [(1,1)] rfl),o44,lh45⟩
  have hk:=hk.lit 12 c31 rfl
  refine cnd_false hk rfl rfl <| wp_exit ?_
  obtain rfl:=osi H
  show R24 _ _
  rw [hR24]
  exact ⟨_,_,h28.symm,(hk.al rfl),(hs.pick [(1,1)] rfl),o14,lh15⟩
 intro a w hR0
 rw [hR24] at hR0
 obtain ⟨u17,k18,rfl,hk,hs,o19,lh20⟩:=hR0
 have H:=HL23
 try dsimp only at H
 refine hK8 _ _ <| sr fun _ hK47=>mv hk rfl fun a hk=>sbt (xs:=u17) rfl hk rfl rfl lh20.symm rfl un101 un5 un9 o19.view (hs.hasG (k:=1) rfl) fun a hk=>mv hk rfl fun a hk=>nx hK47 <| wp_ret ?_
 obtain rfl:=osi H
 exact fin hk _ [(vS (strOfNums u17))] rfl ⟨rfl,trivial⟩ ⟨rfl,(hs.pick [] rfl).dnil⟩
noncomputable def impl_little.s0 (x0:Int) (x1:Int) (u13:List Int) (u12:Int):Option (((List Int)×Int) ⊕ Ex ((List Int)) (ByteArray)) :=
  (bif (decide (u12<x1)) then (if 0≤(w64 (8*u12)) then (if u13.length+([(wR iB (Int.fdiv x0 (2 ^ min (w64 (8*u12)).toNat 64)))]).length≤1073741824 then (some (.inl ((u13++([(wR iB (Int.fdiv x0 (2 ^ min (w64 (8*u12)).toNat 64)))])),(w64 (u12+1))))) else none) else none) else (some (.inr (.out u13))))
noncomputable def impl_little.f (x0:Int) (x1:Int):Option (ByteArray) :=
  ((loopO (fun s=>impl_little.s0 x0 x1 s.1 s.2) (([]:List Int),0)).bind fun o=>match o with | .out u18=>(some (strOfNums u18)) | .ret r=>(some r))
theorem impl_little_t (w0:World) (x0:Int) (x1:Int) (r:ByteArray) (H:impl_little.f x0 x1=some r) :
    Calls Tryz.prog 84 #[vI iS x0,vI iS x1] w0 (Ret (fun v w=>v=vS r∧Sat [] w0 w [] [])):=by
 have hs:=sat0 w0 [] (by simp)
 unfold impl_little.f at H
 refine enter Tryz.func84 rfl Tryz.ntmps84 rfl fun a hk=>sr fun _ hK1=>mv hk rfl fun a hk=>nx hK1 <| sr fun _ hK2=>mv hk rfl fun a hk=>nx hK2 <| sq fun _ hK3=>sr fun _ hK4=>mv hk rfl fun a hk=>mv hk rfl fun a hk=>nx hK4 ?_
 obtain ⟨o23,h24,HL25⟩:=bind_some H
 clear H
 obtain ⟨R26,hR26⟩:=nm fun a w=>∃ (u18:List Int) (A21:Option Addr) (p22:Nat) (k19:Chunk),o23 = .out u18∧Kn [(5,(vL A21 u18.length p22))] 22 a∧Sat [] w0 w [] [(3,k19)]∧Own (Lay.int iB) 5 A21 p22 u18 k19
 refine wp_cutq R26 ?_ ?_
 ·refine wp_block ?_
  obtain ⟨fu28,h24⟩:=loopO_some h24
  obtain ⟨I27,hI27⟩:=nm fun fu a w=>∃ (u13:List Int) (u12:Int) (A16:Option Addr) (p17:Nat) (k14:Chunk),loopN (fun s=>impl_little.s0 x0 x1 s.1 s.2) fu (u13,u12)=some o23∧Kn [(0,(vI iS x0)),(5,(vL A16 u13.length p17)),(7,(vI iS x1)),(8,(vI iS u12))] 22 a∧Sat [] w0 w [] [(3,k14)]∧Own (Lay.int iB) 5 A16 p17 u13 k14
  refine wp_loop_ghost I27 fu28 ?_ ?_
  ·rw [hI27]
   exact ⟨_,_,none,0,_,h24,(hk.al rfl),((hs.addNil 1003).pick [(3,1003)] rfl),Own.nil _ _⟩
  clear h24 hk hs
  intro fu28 a w hI0
  rw [hI27] at hI0
  obtain ⟨u13,u12,A16,p17,k14,hi,hk,hs,o15⟩:=hI0
  obtain ⟨x29,H,h30⟩:=loop_round hi
  try dsimp only at H
  unfold impl_little.s0 at H
  refine sr fun _ hK31=>sv (.bool (decide (u12<x1))) hk rfl rfl rfl fun a hk=>nx hK31 <| sq fun _ hK32=>?_
  rcases cond_some H with ⟨c33,H⟩ | ⟨c33,H⟩
  ·have hk:=hk.lit 9 c33 rfl
   refine cnd_true hk rfl rfl <| wp_skip <| hK32 _ _ <| sq fun _ hK34=>wp_block ?_
   refine sr fun _ hK35=>mv hk rfl fun a hk=>mv hk rfl fun a hk=>nx hK35 ?_
   apply wp_region_lit
   refine mv hk rfl fun a hk=>mv hk rfl fun a hk=>mv hk rfl fun a hk=>sv (vI iS (w64 (8*u12))) hk rfl rfl rfl fun a hk=>?_
   obtain ⟨c36,H⟩:=ite_no H
   refine ssr rfl hk rfl rfl rfl rfl c36 fun a hk=>scn rfl hk rfl rfl rfl un5 un3 fun a hk=>sbs (L:=(Lay.int iB)) (pv:=[(0,(vI iB (wR iB (Int.fdiv x0 (2 ^ min (w64 (8*u12)).toNat 64)))))]) (xs:=[(wR iB (Int.fdiv x0 (2 ^ min (w64 (8*u12)).toNat 64)))]) (ess:=[[vI iB (wR iB (Int.fdiv x0 (2 ^ min (w64 (8*u12)).toNat 64)))]]) 4 hs rfl hk rfl rfl rfl un101 (bs5_4 (wR iB (Int.fdiv x0 (2 ^ min (w64 (8*u12)).toNat 64)))) (AllOwn.cons0 ⟨rfl,rfl⟩ AllOwn.nil) rfl rfl rfl fun b37 k38 w a hk o39 hs=>?_
   obtain ⟨c40,H⟩:=ite_no H
   refine sap 3 (xs:=u13) (ys:=[(wR iB (Int.fdiv x0 (2 ^ min (w64 (8*u12)).toNat 64)))]) (flat_flat:((Lay.int iB)).Flat) hs rfl o15 o39.view (hs.hasG (k:=4) rfl) rfl hk rfl rfl rfl rfl rfl rfl un101 mk5 rfl rfl rfl c40 fun A41 p42 k43 w a hk o44 hs=>mv hk rfl fun a hk=>nx hK34 ?_
   apply wp_region_lit
   refine sv (vI iS (w64 (u12+1))) hk rfl rfl rfl fun a hk=>mv hk rfl fun a hk=>?_
   show wpList _ _ _ [] _ _
   refine wpList_nil ?_
   obtain rfl:=osi H
   obtain ⟨m45,hmm45,h30⟩:=h30
   show ∃ n',n'<_∧I27 n' _ _
   refine ⟨m45,hmm45,?_⟩
   rw [hI27]
   exact ⟨_,_,A41,p42,_,h30,(hk.al rfl),(hs.pick [(3,3)] rfl),o44⟩
  have hk:=hk.lit 9 c33 rfl
  refine cnd_false hk rfl rfl <| wp_exit ?_
  obtain rfl:=osi H
  show R26 _ _
  rw [hR26]
  exact ⟨_,A16,p17,_,h30.symm,(hk.al rfl),(hs.pick [(3,3)] rfl),o15⟩
 intro a w hR0
 rw [hR26] at hR0
 obtain ⟨u18,A21,p22,k19,rfl,hk,hs,o20⟩:=hR0
 have H:=HL25
 try dsimp only at H
 refine hK3 _ _ <| sr fun _ hK46=>mv hk rfl fun a hk=>sbt (xs:=u18) rfl hk rfl rfl rfl rfl un101 un5 un9 o20.view (hs.hasG (k:=3) rfl) fun a hk=>mv hk rfl fun a hk=>nx hK46 <| wp_ret ?_
 obtain rfl:=osi H
 exact fin hk _ [(vS (strOfNums u18))] rfl ⟨rfl,trivial⟩ ⟨rfl,(hs.pick [] rfl).dnil⟩
noncomputable def impl_littleWord.f (x0:ByteArray):Option (Int) :=
  (if 0≤(0:Int)∧(0:Int)<(x0.size:Int) then (if 0≤(1:Int)∧(1:Int)<(x0.size:Int) then (if 0≤(2:Int)∧(2:Int)<(x0.size:Int) then (if 0≤(3:Int)∧(3:Int)<(x0.size:Int) then (some (wR iU ((bO 32 (wR iU ((bO 32 (wR iU ((bO 32 (wR iU (byteAt x0 (0:Int))) ||| bO 32 (wR iU ((wR iU (byteAt x0 (1:Int)))*2 ^ 8))).toNat:Int)) ||| bO 32 (wR iU ((wR iU (byteAt x0 (2:Int)))*2 ^ 16))).toNat:Int)) ||| bO 32 (wR iU ((wR iU (byteAt x0 (3:Int)))*2 ^ 24))).toNat:Int))) else none) else none) else none) else none)
theorem impl_littleWord_t (w0:World) (x0:ByteArray) (r:Int) (H:impl_littleWord.f x0=some r) :
    Calls Tryz.prog 116 #[vS x0] w0 (Ret (fun v w=>v=vI iU r∧Sat [] w0 w [] [])):=by
 have hs:=sat0 w0 [] (by simp)
 unfold impl_littleWord.f at H
 refine enter Tryz.func116 rfl Tryz.ntmps116 rfl fun a hk=>sr fun _ hK1=>mv hk rfl fun a hk=>nx hK1 <| sq fun _ hK2=>wp_region_tree (.q 0 (.q 1 (.q 2 (.q 3 (.q 4 (.q 5 (.q 6 (.q 7 (.q 8 (.q 9 (.q 10 (.q 11 (.q 12 (.alt 13 (.alt 14 (.alt 15 (.alt 16 (.alt 17 (.last 18) .stop) .stop) .stop) .stop) .stop)))))))))))))) mo (by kernel_rfl) (hs.pick [] rfl) fun _=>?_
 have hs:=hs.drew
 refine tqm hk rfl fun a hk=>?_
 obtain ⟨c4,H⟩:=ite_no H
 refine tqst _ hk rfl rfl rfl rfl (fun w hs=>six rfl hk rfl rfl rfl rfl un9 c4.1 c4.2 fun a hk=>qe hk) fun a hk=>tqst _ hk rfl rfl rfl rfl (fun w hs=>scn rfl hk rfl rfl rfl un110 un5 fun a hk=>qe hk) fun a hk=>tqm hk rfl fun a hk=>?_
 obtain ⟨c5,H⟩:=ite_no H
 refine tqst _ hk rfl rfl rfl rfl (fun w hs=>six rfl hk rfl rfl rfl rfl un9 c5.1 c5.2 fun a hk=>qe hk) fun a hk=>tqst _ hk rfl rfl rfl rfl (fun w hs=>scn rfl hk rfl rfl rfl un110 un5 fun a hk=>qe hk) fun a hk=>tqv (vI iU (wR iU ((wR iU (byteAt x0 (1:Int)))*2 ^ 8))) hk rfl rfl (fun _=>rfl) fun a hk=>tqv (vI iU (bio3 (wR iU (byteAt x0 (0:Int))) (wR iU ((wR iU (byteAt x0 (1:Int)))*2 ^ 8)))) hk rfl rfl (fun _=>rfl) fun a hk=>tqm hk rfl fun a hk=>?_
 obtain ⟨c6,H⟩:=ite_no H
 refine tqst _ hk rfl rfl rfl rfl (fun w hs=>six rfl hk rfl rfl rfl rfl un9 c6.1 c6.2 fun a hk=>qe hk) fun a hk=>tqst _ hk rfl rfl rfl rfl (fun w hs=>scn rfl hk rfl rfl rfl un110 un5 fun a hk=>qe hk) fun a hk=>tqv (vI iU (wR iU ((wR iU (byteAt x0 (2:Int)))*2 ^ 16))) hk rfl rfl (fun _=>rfl) fun a hk=>tqv (vI iU (bio3 (bio3 (wR iU (byteAt x0 (0:Int))) (wR iU ((wR iU (byteAt x0 (1:Int)))*2 ^ 8))) (wR iU ((wR iU (byteAt x0 (2:Int)))*2 ^ 16)))) hk rfl rfl (fun _=>rfl) fun a hk=>tss hs hk rfl rfl fun _ hK_r3_13 w hs=>mv hk rfl fun a hk=>se (hs.pick [] rfl) hk (hK_r3_13 _ _ ?_)
 refine tss hs hk rfl rfl fun _ hK_r3_14 w hs=>?_
 obtain ⟨c7,H⟩:=ite_no H
 refine six rfl hk rfl rfl rfl rfl un9 c7.1 c7.2 fun a hk=>se (hs.pick [] rfl) hk (hK_r3_14 _ _ ?_)
 refine tss hs hk rfl rfl fun _ hK_r3_15 w hs=>scn rfl hk rfl rfl rfl un110 un5 fun a hk=>se (hs.pick [] rfl) hk (hK_r3_15 _ _ ?_)
 refine tss hs hk rfl rfl fun _ hK_r3_16 w hs=>sv (vI iU (wR iU ((wR iU (byteAt x0 (3:Int)))*2 ^ 24))) hk rfl rfl rfl fun a hk=>se (hs.pick [] rfl) hk (hK_r3_16 _ _ ?_)
 refine tss hs hk rfl rfl fun _ hK_r3_17 w hs=>sv (vI iU (bio3 (bio3 (bio3 (wR iU (byteAt x0 (0:Int))) (wR iU ((wR iU (byteAt x0 (1:Int)))*2 ^ 8))) (wR iU ((wR iU (byteAt x0 (2:Int)))*2 ^ 16))) (wR iU ((wR iU (byteAt x0 (3:Int)))*2 ^ 24)))) hk rfl rfl rfl fun a hk=>se (hs.pick [] rfl) hk (hK_r3_17 _ _ ?_)
 refine tlst hk rfl rfl fun K_r3_18 hK_r3_18 w hF=>?_
 have hs:=hs.f hF
 refine mv hk rfl fun a hk=>se trivial hk (hK_r3_18 _ _ fun w hF=>?_)
 have hs:=hs.f hF
 refine hK2 _ _ <| wp_ret ?_
 obtain rfl:=osi H
 exact fin hk _ [(vI iU (bio3 (bio3 (bio3 (wR iU (byteAt x0 (0:Int))) (wR iU ((wR iU (byteAt x0 (1:Int)))*2 ^ 8))) (wR iU ((wR iU (byteAt x0 (2:Int)))*2 ^ 16))) (wR iU ((wR iU (byteAt x0 (3:Int)))*2 ^ 24))))] rfl ⟨rfl,trivial⟩ ⟨rfl,(hs.pick [] rfl).dnil⟩
noncomputable def math_bits_RotateLeft32.f (x0:Int) (x1:Int):Option (Int) :=
  (if 0≤(wR .u64 ((bO 64 (wR .u64 x1) &&& bO 64 31).toNat:Int)) then (if 0≤(wR .u64 (32-(wR .u64 ((bO 64 (wR .u64 x1) &&& bO 64 31).toNat:Int)))) then (some (wR iU ((bO 32 (wR iU (x0*2 ^ min (wR .u64 ((bO 64 (wR .u64 x1) &&& bO 64 31).toNat:Int)).toNat 32)) ||| bO 32 (Int.fdiv x0 (2 ^ min (wR .u64 (32-(wR .u64 ((bO 64 (wR .u64 x1) &&& bO 64 31).toNat:Int)))).toNat 32))).toNat:Int))) else none) else none)
theorem math_bits_RotateLeft32_t (w0:World) (x0:Int) (x1:Int) (r:Int) (H:math_bits_RotateLeft32.f x0 x1=some r) :
    Calls Tryz.prog 124 #[vI iU x0,vI iS x1] w0 (Ret (fun v w=>v=vI iU r∧Sat [] w0 w [] [])):=by
 have hs:=sat0 w0 [] (by simp)
 unfold math_bits_RotateLeft32.f at H
 refine enter Tryz.func124 rfl Tryz.ntmps124 rfl fun a hk=>sr fun _ hK1=>mv hk rfl fun a hk=>nx hK1 <| sr fun _ hK2=>mv hk rfl fun a hk=>scn rfl hk rfl rfl rfl un116 un3 fun a hk=>sv (.int .u64 (bia7 (wR .u64 x1) 31)) hk rfl rfl rfl fun a hk=>mv hk rfl fun a hk=>nx hK2 <| sr fun _ hK3=>mv hk rfl fun a hk=>mv hk rfl fun a hk=>?_
 obtain ⟨c4,H⟩:=ite_no H
 refine ssh rfl hk rfl rfl rfl rfl c4 fun a hk=>mv hk rfl fun a hk=>mv hk rfl fun a hk=>sv (.int .u64 (wR .u64 (32-(bia7 (wR .u64 x1) 31)))) hk rfl rfl rfl fun a hk=>?_
 obtain ⟨c5,H⟩:=ite_no H
 refine ssr rfl hk rfl rfl rfl rfl c5 fun a hk=>sv (vI iU (bio3 (wR iU (x0*2 ^ min (bia7 (wR .u64 x1) 31).toNat 32)) (Int.fdiv x0 (2 ^ min (wR .u64 (32-(bia7 (wR .u64 x1) 31))).toNat 32)))) hk rfl rfl rfl fun a hk=>mv hk rfl fun a hk=>nx hK3 <| wp_ret ?_
 obtain rfl:=osi H
 exact fin hk _ [(vI iU (bio3 (wR iU (x0*2 ^ min (bia7 (wR .u64 x1) 31).toNat 32)) (Int.fdiv x0 (2 ^ min (wR .u64 (32-(bia7 (wR .u64 x1) 31))).toNat 32))))] rfl ⟨rfl,trivial⟩ ⟨rfl,(hs.pick [] rfl).dnil⟩
noncomputable def impl_quarter.s0  (u8:Int) (u9:Int) (u10:Int) (u11:Int) (u12:Int):Option ((Int×Int×Int×Int×Int) ⊕ Ex (Int×Int×Int×Int) (Int×Int×Int×Int)) :=
  (bif (decide (u12<2)) then (if 0≤u12∧u12<(2:Int) then (if 0≤(0:Int)∧(0:Int)<(2:Int) then ((math_bits_RotateLeft32.f (wR iU ((bO 32 u11 ^^^ bO 32 (wR iU (u8+u9))).toNat:Int)) ((([[16,12],[8,7]]:List (List Int)).getD u12.toNat []).getD (0:Int).toNat 0)).bind fun y44=>(if 0≤(1:Int)∧(1:Int)<(2:Int) then ((math_bits_RotateLeft32.f (wR iU ((bO 32 u9 ^^^ bO 32 (wR iU (u10+y44))).toNat:Int)) ((([[16,12],[8,7]]:List (List Int)).getD u12.toNat []).getD (1:Int).toNat 0)).bind fun y51=>(some (.inl ((wR iU (u8+u9)),y51,(wR iU (u10+y44)),y44,(w64 (u12+1)))))) else none)) else none) else none) else (some (.inr (.out (u8,u9,u10,u11)))))
noncomputable def impl_quarter.f (x0:Int) (x1:Int) (x2:Int) (x3:Int):Option (Int×Int×Int×Int) :=
  ((loopO (fun s=>impl_quarter.s0  s.1 s.2.1 s.2.2.1 s.2.2.2.1 s.2.2.2.2) (x0,x1,x2,x3,0)).bind fun o=>match o with | .out (u13,u14,u15,u16)=>(some (u13,u14,u15,u16)) | .ret r=>(some r))
theorem impl_quarter_t (w0:World) (x0:Int) (x1:Int) (x2:Int) (x3:Int) (r:Int×Int×Int×Int) (H:impl_quarter.f x0 x1 x2 x3=some r) :
    Calls Tryz.prog 117 #[vI iU x0,vI iU x1,vI iU x2,vI iU x3] w0 (Ret (fun v w=>v = .tuple #[vI iU r.1,vI iU r.2.1,vI iU r.2.2.1,vI iU r.2.2.2]∧Sat [] w0 w [] [])):=by
 have hs:=sat0 w0 [] (by simp)
 unfold impl_quarter.f at H
 refine enter Tryz.func117 rfl Tryz.ntmps117 rfl fun a hk=>sr fun _ hK1=>mv hk rfl fun a hk=>mv hk rfl fun a hk=>mv hk rfl fun a hk=>mv hk rfl fun a hk=>nx hK1 <| sq fun _ hK2=>sr fun _ hK3=>sbd (pv:=[(0,(vI iS 16)),(1,(vI iS 12))]) rfl hk rfl rfl rfl (bd162_25 16 12) fun a hk=>?_
 have lh4:([16,12]:List Int).length=2:=rfl
 refine sbd (pv:=[(0,(vI iS 8)),(1,(vI iS 7))]) rfl hk rfl rfl rfl (bd162_25 8 7) fun a hk=>?_
 have lh5:([8,7]:List Int).length=2:=rfl
 refine sbd (pv:=[(0,(aggI .i64 ([16,12]:List Int))),(1,(aggI .i64 ([8,7]:List Int)))]) rfl hk rfl rfl rfl (bd163_26 16 12 8 7) fun a hk=>mv hk rfl fun a hk=>nx hK3 ?_
 obtain ⟨o17,h18,HL19⟩:=bind_some H
 clear H
 obtain ⟨R20,hR20⟩:=nm fun a w=>∃ (u13:Int) (u14:Int) (u15:Int) (u16:Int),o17 = .out (u13,u14,u15,u16)∧Kn [(0,(vI iU u13)),(1,(vI iU u14)),(2,(vI iU u15)),(3,(vI iU u16))] 43 a∧Sat [] w0 w [] []
 refine wp_cutq R20 ?_ ?_
 ·refine wp_block ?_
  obtain ⟨fu22,h18⟩:=loopO_some h18
  obtain ⟨I21,hI21⟩:=nm fun fu a w=>∃ (u8:Int) (u9:Int) (u10:Int) (u11:Int) (u12:Int),loopN (fun s=>impl_quarter.s0  s.1 s.2.1 s.2.2.1 s.2.2.2.1 s.2.2.2.2) fu (u8,u9,u10,u11,u12)=some o17∧Kn [(0,(vI iU u8)),(1,(vI iU u9)),(2,(vI iU u10)),(3,(vI iU u11)),(16,(.agg #[vI iS 16,vI iS 12,vI iS 8,vI iS 7])),(17,(vI iS u12))] 43 a∧Sat [] w0 w [] []
  refine wp_loop_ghost I21 fu22 ?_ ?_
  ·rw [hI21]
   exact ⟨_,_,_,_,_,h18,(hk.al rfl),(hs.pick [] rfl)⟩
  clear h18 hk hs
  intro fu22 a w hI0
  rw [hI21] at hI0
  obtain ⟨u8,u9,u10,u11,u12,hi,hk,hs⟩:=hI0
  obtain ⟨x23,H,h24⟩:=loop_round hi
  try dsimp only at H
  unfold impl_quarter.s0 at H
  refine sr fun _ hK25=>sv (.bool (decide (u12<2))) hk rfl rfl rfl fun a hk=>nx hK25 <| sq fun _ hK26=>?_
  rcases cond_some H with ⟨c27,H⟩ | ⟨c27,H⟩
  ·have hk:=hk.lit 18 c27 rfl
   refine cnd_true hk rfl rfl <| wp_skip <| hK26 _ _ <| sq fun _ hK28=>wp_block ?_
   refine sr fun _ hK29=>?_
   obtain ⟨c30,H⟩:=ite_no H
   refine six2 (xss:=([[16,12],[8,7]]:List (List Int))) rfl hk rfl rfl rfl rfl rfl un163 sz162 ag162 (by simp) rfl c30.1 c30.2 fun a hk=>?_
   have lh31:(([[16,12],[8,7]]:List (List Int)).getD u12.toNat []).length=2:=row_len (by simp) rfl c30.1 c30.2
   refine sala 2 ((Lay.int iS)) (m:=2) (z:=0) (zc:=[vI iS 0]) hs rfl hk rfl rfl ze162 (by exact ⟨rfl,rfl⟩) rfl rfl rfl fun b32 k33 w a hk o34 hs=>?_
   have lh35:(List.replicate 2 (0:Int)).length=2:=List.length_replicate
   refine sswa 2 (([[16,12],[8,7]]:List (List Int)).getD u12.toNat []) hs rfl o34 lh35 lh31 rfl rfl hk rfl rfl rfl rfl sz162 fun k36 w a hk o37 hs=>nx hK29 <| sr fun _ hK38=>mv hk rfl fun a hk=>mv hk rfl fun a hk=>sv (vI iU (wR iU (u8+u9))) hk rfl rfl rfl fun a hk=>mv hk rfl fun a hk=>nx hK38 <| sr fun _ hK39=>mv hk rfl fun a hk=>mv hk rfl fun a hk=>sv (vI iU (bix3 u11 (wR iU (u8+u9)))) hk rfl rfl rfl fun a hk=>?_
   obtain ⟨c40,H⟩:=ite_no H
   obtain ⟨b41,q42,hAc40⟩:=(o37.view).some_ (0:Int) c40.1 (by rw [lh31];exact c40.2)
   refine sia rfl hk rfl rfl rfl rfl un162 sz3 c40.1 c40.2 hAc40 fun a hk=>?_
   obtain ⟨_,rfl,e43⟩:=(o37.view).at_ 0 (0:Int) c40.1 (by rw [lh31];exact c40.2)
   refine sl (v:=(vI iS ((([[16,12],[8,7]]:List (List Int)).getD u12.toNat []).getD (0:Int).toNat 0))) rfl hk rfl rfl rfl ag3 ((e43 0 _ rfl).cell (hs.hasG (k:=2) rfl)) fun a hk=>?_
   obtain ⟨y44,h45,H⟩:=bind_some H
   refine sc rfl en124 hk rfl rfl rfl (math_bits_RotateLeft32_t _ (bix3 u11 (wR iU (u8+u9))) ((([[16,12],[8,7]]:List (List Int)).getD u12.toNat []).getD (0:Int).toNat 0) _ h45) ?_
   rintro _ w ⟨rfl,hG⟩ a hk
   have hs:=hs.call0 hG
   refine mv hk rfl fun a hk=>nx hK39 <| sr fun _ hK46=>mv hk rfl fun a hk=>mv hk rfl fun a hk=>sv (vI iU (wR iU (u10+y44))) hk rfl rfl rfl fun a hk=>mv hk rfl fun a hk=>nx hK46 ?_
   have hs:=hs.pick [(2,2)] rfl
   apply wp_region_lit
   refine mv hk rfl fun a hk=>mv hk rfl fun a hk=>sv (vI iU (bix3 u9 (wR iU (u10+y44)))) hk rfl rfl rfl fun a hk=>?_
   obtain ⟨c47,H⟩:=ite_no H
   obtain ⟨b48,q49,hAc47⟩:=(o37.view).some_ (1:Int) c47.1 (by rw [lh31];exact c47.2)
   refine sia rfl hk rfl rfl rfl rfl un162 sz3 c47.1 c47.2 hAc47 fun a hk=>?_
   obtain ⟨_,rfl,e50⟩:=(o37.view).at_ 0 (1:Int) c47.1 (by rw [lh31];exact c47.2)
   refine sl (v:=(vI iS ((([[16,12],[8,7]]:List (List Int)).getD u12.toNat []).getD (1:Int).toNat 0))) rfl hk rfl rfl rfl ag3 ((e50 0 _ rfl).cell (hs.hasG (k:=2) rfl)) fun a hk=>?_
   obtain ⟨y51,h52,H⟩:=bind_some H
   refine sc rfl en124 hk rfl rfl rfl (math_bits_RotateLeft32_t _ (bix3 u9 (wR iU (u10+y44))) ((([[16,12],[8,7]]:List (List Int)).getD u12.toNat []).getD (1:Int).toNat 0) _ h52) ?_
   rintro _ w ⟨rfl,hG⟩ a hk
   have hs:=hs.call0 hG
   refine mv hk rfl fun a hk=>nx hK28 ?_
   apply wp_region_lit
   refine sv (vI iS (w64 (u12+1))) hk rfl rfl rfl fun a hk=>mv hk rfl fun a hk=>?_
   show wpList _ _ _ [] _ _
   refine wpList_nil ?_
   obtain rfl:=osi H
   obtain ⟨m53,hmm53,h24⟩:=h24
   show ∃ n',n'<_∧I21 n' _ _
   refine ⟨m53,hmm53,?_⟩
   rw [hI21]
   exact ⟨_,_,_,_,_,h24,(hk.al rfl),(hs.pick [] rfl)⟩
  have hk:=hk.lit 18 c27 rfl
  refine cnd_false hk rfl rfl <| wp_exit ?_
  obtain rfl:=osi H
  show R20 _ _
  rw [hR20]
  exact ⟨_,_,_,_,h24.symm,(hk.al rfl),(hs.pick [] rfl)⟩
 intro a w hR0
 rw [hR20] at hR0
 obtain ⟨u13,u14,u15,u16,rfl,hk,hs⟩:=hR0
 have H:=HL19
 try dsimp only at H
 refine hK2 _ _ <| sr fun _ hK54=>mv hk rfl fun a hk=>mv hk rfl fun a hk=>mv hk rfl fun a hk=>mv hk rfl fun a hk=>mv hk rfl fun a hk=>mv hk rfl fun a hk=>mv hk rfl fun a hk=>mv hk rfl fun a hk=>nx hK54 <| wp_ret ?_
 obtain rfl:=osi H
 exact fin hk _ [(vI iU u13),(vI iU u14),(vI iU u15),(vI iU u16)] rfl ⟨rfl,⟨rfl,⟨rfl,⟨rfl,trivial⟩⟩⟩⟩ ⟨rfl,(hs.pick [] rfl).dnil⟩
noncomputable def impl_stream.s0 (x0:ByteArray) (x1:ByteArray) (y4:ByteArray) (u21:List Int) (u25:List Int) (u29:Int):Option (((List Int)×(List Int)×Int) ⊕ Ex ((List Int)×(List Int)) (ByteArray)) :=
  (bif (decide (u29<16)) then (if 0≤(w64 (4*u29))∧(w64 (4*u29))≤(((((⟨#[101,120,112,97,110,100,32,51,50,45,98,121,116,101,32,107]⟩:ByteArray)++x0)++y4)++x1).size:Int) then ((impl_littleWord.f (((((⟨#[101,120,112,97,110,100,32,51,50,45,98,121,116,101,32,107]⟩:ByteArray)++x0)++y4)++x1).extract (w64 (4*u29)).toNat ((((⟨#[101,120,112,97,110,100,32,51,50,45,98,121,116,101,32,107]⟩:ByteArray)++x0)++y4)++x1).size)).bind fun y53=>(if 0≤u29∧u29<(16:Int) then (if 0≤u29∧u29<(16:Int) then (if 0≤u29∧u29<(16:Int) then (some (.inl ((u21.set u29.toNat y53),(u25.set u29.toNat ((u21.set u29.toNat y53).getD u29.toNat 0)),(w64 (u29+1))))) else none) else none) else none)) else none) else (some (.inr (.out (u21,u25)))))
noncomputable def impl_stream.s3 (u104:Int) (u125:List Int) (u129:Int):Option (((List Int)×Int) ⊕ Ex ((List Int)) (ByteArray)) :=
  (bif (decide (u129<4)) then (if 0≤u129∧u129<(16:Int) then (if 0≤(w64 (4+(Int.tmod (w64 (u129+u104)) 4)))∧(w64 (4+(Int.tmod (w64 (u129+u104)) 4)))<(16:Int) then (if 0≤(w64 (8+(Int.tmod (w64 (u129+(w64 (2*u104)))) 4)))∧(w64 (8+(Int.tmod (w64 (u129+(w64 (2*u104)))) 4)))<(16:Int) then (if 0≤(w64 (12+(Int.tmod (w64 (u129+(w64 (3*u104)))) 4)))∧(w64 (12+(Int.tmod (w64 (u129+(w64 (3*u104)))) 4)))<(16:Int) then ((impl_quarter.f (u125.getD u129.toNat 0) (u125.getD (w64 (4+(Int.tmod (w64 (u129+u104)) 4))).toNat 0) (u125.getD (w64 (8+(Int.tmod (w64 (u129+(w64 (2*u104)))) 4))).toNat 0) (u125.getD (w64 (12+(Int.tmod (w64 (u129+(w64 (3*u104)))) 4))).toNat 0)).bind fun y165=>(if 0≤u129∧u129<(16:Int) then (if 0≤(w64 (4+(Int.tmod (w64 (u129+u104)) 4)))∧(w64 (4+(Int.tmod (w64 (u129+u104)) 4)))<(16:Int) then (if 0≤(w64 (8+(Int.tmod (w64 (u129+(w64 (2*u104)))) 4)))∧(w64 (8+(Int.tmod (w64 (u129+(w64 (2*u104)))) 4)))<(16:Int) then (if 0≤(w64 (12+(Int.tmod (w64 (u129+(w64 (3*u104)))) 4)))∧(w64 (12+(Int.tmod (w64 (u129+(w64 (3*u104)))) 4)))<(16:Int) then (some (.inl (((((u125.set u129.toNat y165.1).set (w64 (4+(Int.tmod (w64 (u129+u104)) 4))).toNat y165.2.1).set (w64 (8+(Int.tmod (w64 (u129+(w64 (2*u104)))) 4))).toNat y165.2.2.1).set (w64 (12+(Int.tmod (w64 (u129+(w64 (3*u104)))) 4))).toNat y165.2.2.2),(w64 (u129+1))))) else none) else none) else none) else none)) else none) else none) else none) else none) else (some (.inr (.out u125))))
noncomputable def impl_stream.s2  (u100:List Int) (u104:Int):Option (((List Int)×Int) ⊕ Ex ((List Int)) (ByteArray)) :=
  (bif (decide (u104<2)) then ((loopO (fun s=>impl_stream.s3 u104 s.1 s.2) (u100,0)).bind fun o=>match o with | .out u130=>(some (.inl (u130,(w64 (u104+1))))) | .ret r=>(some (.inr (.ret r)))) else (some (.inr (.out u100))))
noncomputable def impl_stream.s1  (u76:List Int) (u80:Int):Option (((List Int)×Int) ⊕ Ex ((List Int)) (ByteArray)) :=
  (bif (decide (u80<10)) then ((loopO (fun s=>impl_stream.s2  s.1 s.2) (u76,0)).bind fun o=>match o with | .out u105=>(some (.inl (u105,(w64 (u80+1))))) | .ret r=>(some (.inr (.ret r)))) else (some (.inr (.out u76))))
noncomputable def impl_stream.s4 (u30:List Int) (u81:List Int) (u199:ByteArray) (u200:Int):Option ((ByteArray×Int) ⊕ Ex (ByteArray) (ByteArray)) :=
  (bif (decide (u200<16)) then (if 0≤u200∧u200<(16:Int) then (if 0≤u200∧u200<(16:Int) then ((impl_little.f (wR iS (wR iU ((u81.getD u200.toNat 0)+(u30.getD u200.toNat 0)))) 4).bind fun y224=>(if u199.size+y224.size≤1152921504606846976 then (some (.inl ((u199++y224),(w64 (u200+1))))) else none)) else none) else none) else (some (.inr (.out u199))))
noncomputable def impl_stream.f (x0:ByteArray) (x1:ByteArray) (x2:Int):Option (ByteArray) :=
  (if (⟨#[101,120,112,97,110,100,32,51,50,45,98,121,116,101,32,107]⟩:ByteArray).size+x0.size≤1152921504606846976 then ((impl_little.f x2 4).bind fun y4=>(if ((⟨#[101,120,112,97,110,100,32,51,50,45,98,121,116,101,32,107]⟩:ByteArray)++x0).size+y4.size≤1152921504606846976 then (if (((⟨#[101,120,112,97,110,100,32,51,50,45,98,121,116,101,32,107]⟩:ByteArray)++x0)++y4).size+x1.size≤1152921504606846976 then ((loopO (fun s=>impl_stream.s0 x0 x1 y4 s.1 s.2.1 s.2.2) ((List.replicate 16 (0:Int)),(List.replicate 16 (0:Int)),0)).bind fun o=>match o with | .out (u30,u34)=>((loopO (fun s=>impl_stream.s1  s.1 s.2) (u34,0)).bind fun o=>match o with | .out u81=>((loopO (fun s=>impl_stream.s4 u30 u81 s.1 s.2) ((⟨#[]⟩:ByteArray),0)).bind fun o=>match o with | .out u201=>(some u201) | .ret r=>(some r)) | .ret r=>(some r)) | .ret r=>(some r)) else none) else none)) else none)
theorem impl_stream_t (w0:World) (x0:ByteArray) (x1:ByteArray) (x2:Int) (r:ByteArray) (H:impl_stream.f x0 x1 x2=some r) :
    Calls Tryz.prog 101 #[vS x0,vS x1,vI iS x2] w0 (Ret (fun v w=>v=vS r∧Sat [] w0 w [] [])):=by
 have hs:=sat0 w0 [] (by simp)
 unfold impl_stream.f at H
 refine enter Tryz.func101 rfl Tryz.ntmps101 rfl fun a hk=>sr fun _ hK1=>mv hk rfl fun a hk=>nx hK1 <| sr fun _ hK2=>mv hk rfl fun a hk=>?_
 obtain ⟨c3,H⟩:=ite_no H
 refine ssa rfl hk rfl rfl rfl rfl c3 fun a hk=>mv hk rfl fun a hk=>?_
 obtain ⟨y4,h5,H⟩:=bind_some H
 refine sc rfl en84 hk rfl rfl rfl (impl_little_t _ x2 4 _ h5) ?_
 rintro _ w ⟨rfl,hG⟩ a hk
 have hs:=hs.call0 hG
 obtain ⟨c6,H⟩:=ite_no H
 refine ssa rfl hk rfl rfl rfl rfl c6 fun a hk=>mv hk rfl fun a hk=>?_
 obtain ⟨c7,H⟩:=ite_no H
 refine ssa rfl hk rfl rfl rfl rfl c7 fun a hk=>mv hk rfl fun a hk=>nx hK2 <| sr fun _ hK8=>sala 1 ((Lay.int iU)) (m:=16) (z:=0) (zc:=[vI iU 0]) hs rfl hk rfl rfl ze139 (by exact ⟨rfl,rfl⟩) rfl rfl rfl fun b9 k10 w a hk o11 hs=>?_
 have lh12:(List.replicate 16 (0:Int)).length=16:=List.length_replicate
 refine sala 2 ((Lay.int iU)) (m:=16) (z:=0) (zc:=[vI iU 0]) hs rfl hk rfl rfl ze139 (by exact ⟨rfl,rfl⟩) rfl rfl rfl fun b13 k14 w a hk o15 hs=>?_
 have lh16:(List.replicate 16 (0:Int)).length=16:=List.length_replicate
 refine nx hK8 <| sq fun _ hK17=>sr fun _ hK18=>mv hk rfl fun a hk=>nx hK18 ?_
 obtain ⟨o38,h39,HL40⟩:=bind_some H
 clear H
 obtain ⟨R41,hR41⟩:=nm fun a w=>∃ (u30:List Int) (u34:List Int) (k31:Chunk) (k35:Chunk),o38 = .out (u30,u34)∧Kn [(8,(vP (some ⟨b9,0,none⟩))),(9,(vP (some ⟨b13,0,none⟩)))] 111 a∧Sat [] w0 w [] [(1,k31),(2,k35)]∧Own (Lay.int iU) 139 (some ⟨b9,0,none⟩) 16 u30 k31∧u30.length=16∧Own (Lay.int iU) 139 (some ⟨b13,0,none⟩) 16 u34 k35∧u34.length=16
 refine wp_cutq R41 ?_ ?_
 ·refine wp_block ?_
  obtain ⟨fu43,h39⟩:=loopO_some h39
  obtain ⟨I42,hI42⟩:=nm fun fu a w=>∃ (u21:List Int) (u25:List Int) (u29:Int) (k22:Chunk) (k26:Chunk),loopN (fun s=>impl_stream.s0 x0 x1 y4 s.1 s.2.1 s.2.2) fu (u21,u25,u29)=some o38∧Kn [(7,(vS ((((⟨#[101,120,112,97,110,100,32,51,50,45,98,121,116,101,32,107]⟩:ByteArray)++x0)++y4)++x1))),(8,(vP (some ⟨b9,0,none⟩))),(9,(vP (some ⟨b13,0,none⟩))),(25,(vI iS u29))] 111 a∧Sat [] w0 w [] [(1,k22),(2,k26)]∧Own (Lay.int iU) 139 (some ⟨b9,0,none⟩) 16 u21 k22∧u21.length=16∧Own (Lay.int iU) 139 (some ⟨b13,0,none⟩) 16 u25 k26∧u25.length=16
  refine wp_loop_ghost I42 fu43 ?_ ?_
  ·rw [hI42]
   exact ⟨_,_,_,_,_,h39,(hk.al rfl),(hs.pick [(1,1),(2,2)] rfl),o11,lh12,o15,lh16⟩
  clear h39 hk hs
  intro fu43 a w hI0
  rw [hI42] at hI0
  obtain ⟨u21,u25,u29,k22,k26,hi,hk,hs,o23,lh24,o27,lh28⟩:=hI0
  obtain ⟨x44,H,h45⟩:=loop_round hi
  try dsimp only at H
  unfold impl_stream.s0 at H
  refine sr fun _ hK46=>sv (.bool (decide (u29<16))) hk rfl rfl rfl fun a hk=>nx hK46 <| sq fun _ hK47=>?_
  rcases cond_some H with ⟨c48,H⟩ | ⟨c48,H⟩
  ·have hk:=hk.lit 26 c48 rfl
   refine cnd_true hk rfl rfl <| wp_skip <| hK47 _ _ <| sq fun _ hK49=>wp_block ?_
   refine sr fun _ hK50=>mv hk rfl fun a hk=>mv hk rfl fun a hk=>nx hK50 <| sr fun _ hK51=>mv hk rfl fun a hk=>mv hk rfl fun a hk=>mv hk rfl fun a hk=>sv (vI iS (w64 (4*u29))) hk rfl rfl rfl fun a hk=>?_
   obtain ⟨c52,H⟩:=ite_no H
   refine ssl_l rfl hk rfl rfl rfl rfl un9 c52.1 c52.2 fun a hk=>?_
   obtain ⟨y53,h54,H⟩:=bind_some H
   refine sc rfl en116 hk rfl rfl rfl (impl_littleWord_t _ (((((⟨#[101,120,112,97,110,100,32,51,50,45,98,121,116,101,32,107]⟩:ByteArray)++x0)++y4)++x1).extract (w64 (4*u29)).toNat ((((⟨#[101,120,112,97,110,100,32,51,50,45,98,121,116,101,32,107]⟩:ByteArray)++x0)++y4)++x1).size) _ h54) ?_
   rintro _ w ⟨rfl,hG⟩ a hk
   have hs:=hs.call0 hG
   obtain ⟨c55,H⟩:=ite_no H
   obtain ⟨b56,q57,hAc55⟩:=(o23.view).some_ u29 c55.1 (by rw [lh24];exact c55.2)
   refine sia rfl hk rfl rfl rfl rfl un139 sz110 c55.1 c55.2 hAc55 fun a hk=>so (j:=0) 1 0 y53 hs rfl o23 c55.1 (by rw [lh24];exact c55.2) rfl hk rfl rfl rfl rfl rfl sz110 (by simp [Value.cells,Value.oneCell']) (Nat.le_of_ble_eq_true rfl) (fun _ _ h=>⟨by rw [h.1];rfl,h.2⟩) fun k58 w a hk o59 hs=>?_
   have lh60:(u21.set u29.toNat y53).length=16:=by rw [List.length_set];exact lh24
   refine nx hK51 ?_
   have hs:=hs.pick [(1,1),(2,2)] rfl
   apply wp_region_lit
   refine mv hk rfl fun a hk=>mv hk rfl fun a hk=>?_
   obtain ⟨c61,H⟩:=ite_no H
   obtain ⟨b62,q63,hAc61⟩:=(o59.view).some_ u29 c61.1 (by rw [lh60];exact c61.2)
   refine sia rfl hk rfl rfl rfl rfl un139 sz110 c61.1 c61.2 hAc61 fun a hk=>?_
   obtain ⟨_,rfl,e64⟩:=(o59.view).at_ 0 u29 c61.1 (by rw [lh60];exact c61.2)
   refine sl (v:=(vI iU ((u21.set u29.toNat y53).getD u29.toNat 0))) rfl hk rfl rfl rfl ag110 ((e64 0 _ rfl).cell (hs.hasG (k:=1) rfl)) fun a hk=>?_
   obtain ⟨c65,H⟩:=ite_no H
   obtain ⟨b66,q67,hAc65⟩:=(o27.view).some_ u29 c65.1 (by rw [lh28];exact c65.2)
   refine sia rfl hk rfl rfl rfl rfl un139 sz110 c65.1 c65.2 hAc65 fun a hk=>so (j:=0) 2 0 ((u21.set u29.toNat y53).getD u29.toNat 0) hs rfl o27 c65.1 (by rw [lh28];exact c65.2) rfl hk rfl rfl rfl rfl rfl sz110 (by simp [Value.cells,Value.oneCell']) (Nat.le_of_ble_eq_true rfl) (fun _ _ h=>⟨by rw [h.1];rfl,h.2⟩) fun k68 w a hk o69 hs=>?_
   have lh70:(u25.set u29.toNat ((u21.set u29.toNat y53).getD u29.toNat 0)).length=16:=by rw [List.length_set];exact lh28
   refine nx hK49 ?_
   apply wp_region_lit
   refine sv (vI iS (w64 (u29+1))) hk rfl rfl rfl fun a hk=>mv hk rfl fun a hk=>?_
   show wpList _ _ _ [] _ _
   refine wpList_nil ?_
   obtain rfl:=osi H
   obtain ⟨m71,hmm71,h45⟩:=h45
   show ∃ n',n'<_∧I42 n' _ _
   refine ⟨m71,hmm71,?_⟩
   rw [hI42]
   exact ⟨_,_,_,_,_,h45,(hk.al rfl),(hs.pick [(1,1),(2,2)] rfl),o59,lh60,o69,lh70⟩
  have hk:=hk.lit 26 c48 rfl
  refine cnd_false hk rfl rfl <| wp_exit ?_
  obtain rfl:=osi H
  show R41 _ _
  rw [hR41]
  exact ⟨_,_,_,_,h45.symm,(hk.al rfl),(hs.pick [(1,1),(2,2)] rfl),o23,lh24,o27,lh28⟩
 intro a w hR0
 rw [hR41] at hR0
 obtain ⟨u30,u34,k31,k35,rfl,hk,hs,o32,lh33,o36,lh37⟩:=hR0
 have H:=HL40
 try dsimp only at H
 refine hK17 _ _ <| sq fun _ hK72=>sr fun _ hK73=>mv hk rfl fun a hk=>nx hK73 ?_
 obtain ⟨o85,h86,HL87⟩:=bind_some H
 clear H
 obtain ⟨R88,hR88⟩:=nm fun a w=>∃ (u81:List Int) (k82:Chunk),o85 = .out u81∧Kn [(8,(vP (some ⟨b9,0,none⟩))),(9,(vP (some ⟨b13,0,none⟩)))] 111 a∧Sat [] w0 w [] [(1,k31),(2,k82)]∧Own (Lay.int iU) 139 (some ⟨b13,0,none⟩) 16 u81 k82∧u81.length=16
 refine wp_cutq R88 ?_ ?_
 ·refine wp_block ?_
  obtain ⟨fu90,h86⟩:=loopO_some h86
  obtain ⟨I89,hI89⟩:=nm fun fu a w=>∃ (u76:List Int) (u80:Int) (k77:Chunk),loopN (fun s=>impl_stream.s1  s.1 s.2) fu (u76,u80)=some o85∧Kn [(8,(vP (some ⟨b9,0,none⟩))),(9,(vP (some ⟨b13,0,none⟩))),(41,(vI iS u80))] 111 a∧Sat [] w0 w [] [(1,k31),(2,k77)]∧Own (Lay.int iU) 139 (some ⟨b13,0,none⟩) 16 u76 k77∧u76.length=16
  refine wp_loop_ghost I89 fu90 ?_ ?_
  ·rw [hI89]
   exact ⟨_,_,_,h86,(hk.al rfl),(hs.pick [(1,1),(2,2)] rfl),o36,lh37⟩
  clear h86 hk hs
  intro fu90 a w hI0
  rw [hI89] at hI0
  obtain ⟨u76,u80,k77,hi,hk,hs,o78,lh79⟩:=hI0
  obtain ⟨x91,H,h92⟩:=loop_round hi
  try dsimp only at H
  unfold impl_stream.s1 at H
  refine sr fun _ hK93=>sv (.bool (decide (u80<10))) hk rfl rfl rfl fun a hk=>nx hK93 <| sq fun _ hK94=>?_
  rcases cond_some H with ⟨c95,H⟩ | ⟨c95,H⟩
  ·have hk:=hk.lit 42 c95 rfl
   refine cnd_true hk rfl rfl <| wp_skip <| hK94 _ _ ?_
   have hs:=hs.pick [(1,1),(2,2)] rfl
   refine sq fun _ hK96=>wp_block <| sr fun _ hK97=>mv hk rfl fun a hk=>nx hK97 ?_
   obtain ⟨o109,h110,HL111⟩:=bind_some H
   clear H
   obtain ⟨R112,hR112⟩:=nm fun a w=>∃ (u105:List Int) (k106:Chunk),o109 = .out u105∧Kn [(8,(vP (some ⟨b9,0,none⟩))),(9,(vP (some ⟨b13,0,none⟩))),(41,(vI iS u80))] 111 a∧Sat [] w0 w [] [(1,k31),(2,k106)]∧Own (Lay.int iU) 139 (some ⟨b13,0,none⟩) 16 u105 k106∧u105.length=16
   refine wp_cutq R112 ?_ ?_
   ·refine wp_block ?_
    obtain ⟨fu114,h110⟩:=loopO_some h110
    obtain ⟨I113,hI113⟩:=nm fun fu a w=>∃ (u100:List Int) (u104:Int) (k101:Chunk),loopN (fun s=>impl_stream.s2  s.1 s.2) fu (u100,u104)=some o109∧Kn [(8,(vP (some ⟨b9,0,none⟩))),(9,(vP (some ⟨b13,0,none⟩))),(41,(vI iS u80)),(43,(vI iS u104))] 111 a∧Sat [] w0 w [] [(1,k31),(2,k101)]∧Own (Lay.int iU) 139 (some ⟨b13,0,none⟩) 16 u100 k101∧u100.length=16
    refine wp_loop_ghost I113 fu114 ?_ ?_
    ·rw [hI113]
     exact ⟨_,_,_,h110,(hk.al rfl),(hs.pick [(1,1),(2,2)] rfl),o78,lh79⟩
    clear h110 hk hs
    intro fu114 a w hI0
    rw [hI113] at hI0
    obtain ⟨u100,u104,k101,hi,hk,hs,o102,lh103⟩:=hI0
    obtain ⟨x115,H,h116⟩:=loop_round hi
    try dsimp only at H
    unfold impl_stream.s2 at H
    refine sr fun _ hK117=>sv (.bool (decide (u104<2))) hk rfl rfl rfl fun a hk=>nx hK117 <| sq fun _ hK118=>?_
    rcases cond_some H with ⟨c119,H⟩ | ⟨c119,H⟩
    ·have hk:=hk.lit 44 c119 rfl
     refine cnd_true hk rfl rfl <| wp_skip <| hK118 _ _ <| sq fun _ hK120=>wp_block ?_
     refine sr fun _ hK121=>mv hk rfl fun a hk=>mv hk rfl fun a hk=>nx hK121 <| sr fun _ hK122=>mv hk rfl fun a hk=>nx hK122 ?_
     obtain ⟨o134,h135,HL136⟩:=bind_some H
     clear H
     obtain ⟨R137,hR137⟩:=nm fun a w=>∃ (u130:List Int) (k131:Chunk),o134 = .out u130∧Kn [(8,(vP (some ⟨b9,0,none⟩))),(9,(vP (some ⟨b13,0,none⟩))),(41,(vI iS u80)),(43,(vI iS u104))] 111 a∧Sat [] w0 w [] [(1,k31),(2,k131)]∧Own (Lay.int iU) 139 (some ⟨b13,0,none⟩) 16 u130 k131∧u130.length=16
     refine wp_cutq R137 ?_ ?_
     ·refine wp_block ?_
      obtain ⟨fu139,h135⟩:=loopO_some h135
      obtain ⟨I138,hI138⟩:=nm fun fu a w=>∃ (u125:List Int) (u129:Int) (k126:Chunk),loopN (fun s=>impl_stream.s3 u104 s.1 s.2) fu (u125,u129)=some o134∧Kn [(8,(vP (some ⟨b9,0,none⟩))),(9,(vP (some ⟨b13,0,none⟩))),(11,(vI iS u104)),(41,(vI iS u80)),(43,(vI iS u104)),(46,(vI iS u129))] 111 a∧Sat [] w0 w [] [(1,k31),(2,k126)]∧Own (Lay.int iU) 139 (some ⟨b13,0,none⟩) 16 u125 k126∧u125.length=16
      refine wp_loop_ghost I138 fu139 ?_ ?_
      ·rw [hI138]
       exact ⟨_,_,_,h135,(hk.al rfl),(hs.pick [(1,1),(2,2)] rfl),o102,lh103⟩
      clear h135 hk hs
      intro fu139 a w hI0
      rw [hI138] at hI0
      obtain ⟨u125,u129,k126,hi,hk,hs,o127,lh128⟩:=hI0
      obtain ⟨x140,H,h141⟩:=loop_round hi
      try dsimp only at H
      unfold impl_stream.s3 at H
      refine sr fun _ hK142=>sv (.bool (decide (u129<4))) hk rfl rfl rfl fun a hk=>nx hK142 <| sq fun _ hK143=>?_
      rcases cond_some H with ⟨c144,H⟩ | ⟨c144,H⟩
      ·have hk:=hk.lit 47 c144 rfl
       refine cnd_true hk rfl rfl <| wp_skip <| hK143 _ _ <| sq fun _ hK145=>wp_block ?_
       refine sr fun _ hK146=>mv hk rfl fun a hk=>mv hk rfl fun a hk=>nx hK146 ?_
       have hs:=hs.pick [(1,1),(2,2)] rfl
       refine sr fun _ hK147=>mv hk rfl fun a hk=>mv hk rfl fun a hk=>sv (vI iS (w64 (u129+u104))) hk rfl rfl rfl fun a hk=>sv (vI iS (Int.tmod (w64 (u129+u104)) 4)) hk rfl rfl rfl fun a hk=>sv (vI iS (w64 (4+(Int.tmod (w64 (u129+u104)) 4)))) hk rfl rfl rfl fun a hk=>mv hk rfl fun a hk=>mv hk rfl fun a hk=>sv (vI iS (w64 (2*u104))) hk rfl rfl rfl fun a hk=>sv (vI iS (w64 (u129+(w64 (2*u104))))) hk rfl rfl rfl fun a hk=>sv (vI iS (Int.tmod (w64 (u129+(w64 (2*u104)))) 4)) hk rfl rfl rfl fun a hk=>sv (vI iS (w64 (8+(Int.tmod (w64 (u129+(w64 (2*u104)))) 4)))) hk rfl rfl rfl fun a hk=>mv hk rfl fun a hk=>mv hk rfl fun a hk=>sv (vI iS (w64 (3*u104))) hk rfl rfl rfl fun a hk=>sv (vI iS (w64 (u129+(w64 (3*u104))))) hk rfl rfl rfl fun a hk=>sv (vI iS (Int.tmod (w64 (u129+(w64 (3*u104)))) 4)) hk rfl rfl rfl fun a hk=>sv (vI iS (w64 (12+(Int.tmod (w64 (u129+(w64 (3*u104)))) 4)))) hk rfl rfl rfl fun a hk=>mv hk rfl fun a hk=>mv hk rfl fun a hk=>mv hk rfl fun a hk=>nx hK147 <| wp_region_tree2 16 (.q 0 (.q 1 (.q 2 (.q 3 (.q 4 (.q 5 (.q 6 (.q 7 (.q 8 (.q 9 (.q 10 (.q 11 (.q 12 (.alt 13 (.alt 14 (.alt 15 (.alt 16 (.alt 17 (.q 18 (.q 19 (.q 20 (.q 21 (.alt 22 (.alt 23 (.alt 24 (.alt 25 (.alt 26 (.alt 27 (.alt 28 (.last 29) .stop) .stop) .stop) .stop) .stop) .stop) .stop))))) .stop) .stop) .stop) .stop) .stop)))))))))))))) mo (by kernel_rfl) (hs.pick [(1,1),(2,2)] rfl) (fun w hs=>hs.pick [(1,1)] rfl) fun _=>?_
       have hs:=hs.drew
       refine tq2 (vI iS u129) hk rfl rfl rfl rfl (fun w hs=>sm _ rfl hk rfl rfl rfl fun a hk=>qe hk) fun a hk=>tq2 (vI iS (w64 (4+(Int.tmod (w64 (u129+u104)) 4)))) hk rfl rfl rfl rfl (fun w hs=>sm _ rfl hk rfl rfl rfl fun a hk=>qe hk) fun a hk=>tq2 (vI iS (w64 (8+(Int.tmod (w64 (u129+(w64 (2*u104)))) 4)))) hk rfl rfl rfl rfl (fun w hs=>sm _ rfl hk rfl rfl rfl fun a hk=>qe hk) fun a hk=>tq2 (vI iS (w64 (12+(Int.tmod (w64 (u129+(w64 (3*u104)))) 4)))) hk rfl rfl rfl rfl (fun w hs=>sm _ rfl hk rfl rfl rfl fun a hk=>qe hk) fun a hk=>tq2 (vI iS u129) hk rfl rfl rfl rfl (fun w hs=>sm _ rfl hk rfl rfl rfl fun a hk=>qe hk) fun a hk=>?_
       obtain ⟨c149,H⟩:=ite_no H
       obtain ⟨b150,q151,hAc149⟩:=(o127.view).some_ u129 c149.1 (by rw [lh128];exact c149.2)
       refine tq2 (vP (some (padd (some ⟨b13,0,none⟩) (u129.toNat*1)))) hk rfl rfl rfl rfl (fun w hs=>sia rfl hk rfl rfl rfl rfl un139 sz110 c149.1 c149.2 hAc149 fun a hk=>qe hk) fun a hk=>?_
       obtain ⟨_,rfl,e152⟩:=(o127.view).at_ 0 u129 c149.1 (by rw [lh128];exact c149.2)
       refine tq1 (hdep:=by kernel_rfl) (vI iU (u125.getD u129.toNat 0)) hk rfl rfl rfl rfl (fun w hs=>sl (v:=(vI iU (u125.getD u129.toNat 0))) rfl hk rfl rfl rfl ag110 ((e152 0 _ rfl).cell (hs.hasG (k:=2) rfl)) fun a hk=>qe hk) fun a hk=>tq2 (vI iS (w64 (4+(Int.tmod (w64 (u129+u104)) 4)))) hk rfl rfl rfl rfl (fun w hs=>sm _ rfl hk rfl rfl rfl fun a hk=>qe hk) fun a hk=>?_
       obtain ⟨c153,H⟩:=ite_no H
       obtain ⟨b154,q155,hAc153⟩:=(o127.view).some_ (w64 (4+(Int.tmod (w64 (u129+u104)) 4))) c153.1 (by rw [lh128];exact c153.2)
       refine tq2 (vP (some (padd (some ⟨b13,0,none⟩) ((w64 (4+(Int.tmod (w64 (u129+u104)) 4))).toNat*1)))) hk rfl rfl rfl rfl (fun w hs=>sia rfl hk rfl rfl rfl rfl un139 sz110 c153.1 c153.2 hAc153 fun a hk=>qe hk) fun a hk=>?_
       obtain ⟨_,rfl,e156⟩:=(o127.view).at_ 0 (w64 (4+(Int.tmod (w64 (u129+u104)) 4))) c153.1 (by rw [lh128];exact c153.2)
       refine tq1 (hdep:=by kernel_rfl) (vI iU (u125.getD (w64 (4+(Int.tmod (w64 (u129+u104)) 4))).toNat 0)) hk rfl rfl rfl rfl (fun w hs=>sl (v:=(vI iU (u125.getD (w64 (4+(Int.tmod (w64 (u129+u104)) 4))).toNat 0))) rfl hk rfl rfl rfl ag110 ((e156 0 _ rfl).cell (hs.hasG (k:=2) rfl)) fun a hk=>qe hk) fun a hk=>tq2 (vI iS (w64 (8+(Int.tmod (w64 (u129+(w64 (2*u104)))) 4)))) hk rfl rfl rfl rfl (fun w hs=>sm _ rfl hk rfl rfl rfl fun a hk=>qe hk) fun a hk=>?_
       obtain ⟨c157,H⟩:=ite_no H
       obtain ⟨b158,q159,hAc157⟩:=(o127.view).some_ (w64 (8+(Int.tmod (w64 (u129+(w64 (2*u104)))) 4))) c157.1 (by rw [lh128];exact c157.2)
       refine tq2 (vP (some (padd (some ⟨b13,0,none⟩) ((w64 (8+(Int.tmod (w64 (u129+(w64 (2*u104)))) 4))).toNat*1)))) hk rfl rfl rfl rfl (fun w hs=>sia rfl hk rfl rfl rfl rfl un139 sz110 c157.1 c157.2 hAc157 fun a hk=>qe hk) fun a hk=>?_
       obtain ⟨_,rfl,e160⟩:=(o127.view).at_ 0 (w64 (8+(Int.tmod (w64 (u129+(w64 (2*u104)))) 4))) c157.1 (by rw [lh128];exact c157.2)
       refine tq1 (hdep:=by kernel_rfl) (vI iU (u125.getD (w64 (8+(Int.tmod (w64 (u129+(w64 (2*u104)))) 4))).toNat 0)) hk rfl rfl rfl rfl (fun w hs=>sl (v:=(vI iU (u125.getD (w64 (8+(Int.tmod (w64 (u129+(w64 (2*u104)))) 4))).toNat 0))) rfl hk rfl rfl rfl ag110 ((e160 0 _ rfl).cell (hs.hasG (k:=2) rfl)) fun a hk=>qe hk) fun a hk=>ta1 hk rfl rfl rfl (fun K_r148_13 hK_r148_13 w hF=>?_) wt2_stop
       have hs:=hs.f hF
       refine mv hk rfl fun a hk=>se (hs.pick [(1,1),(2,2)] rfl) hk (hK_r148_13 _ _ ?_)
       refine ta1 hk rfl rfl rfl (fun K_r148_14 hK_r148_14 w hF=>?_) wt2_stop
       have hs:=hs.f hF
       obtain ⟨c161,H⟩:=ite_no H
       obtain ⟨b162,q163,hAc161⟩:=(o127.view).some_ (w64 (12+(Int.tmod (w64 (u129+(w64 (3*u104)))) 4))) c161.1 (by rw [lh128];exact c161.2)
       refine sia rfl hk rfl rfl rfl rfl un139 sz110 c161.1 c161.2 hAc161 fun a hk=>se (hs.pick [(1,1),(2,2)] rfl) hk (hK_r148_14 _ _ ?_)
       refine ta1 hk rfl rfl rfl (fun K_r148_15 hK_r148_15 w hF=>?_) wt2_stop
       have hs:=hs.f hF
       obtain ⟨_,rfl,e164⟩:=(o127.view).at_ 0 (w64 (12+(Int.tmod (w64 (u129+(w64 (3*u104)))) 4))) c161.1 (by rw [lh128];exact c161.2)
       refine sl (v:=(vI iU (u125.getD (w64 (12+(Int.tmod (w64 (u129+(w64 (3*u104)))) 4))).toNat 0))) rfl hk rfl rfl rfl ag110 ((e164 0 _ rfl).cell (hs.hasG (k:=2) rfl)) fun a hk=>se (hs.pick [(1,1),(2,2)] rfl) hk (hK_r148_15 _ _ ?_)
       refine tam hk rfl rfl rfl (fun K_r148_16 hK_r148_16 w hF=>?_) wt2_stop
       have hs:=hs.f hF
       obtain ⟨y165,h166,H⟩:=bind_some H
       refine sc rfl en117 hk rfl rfl rfl (impl_quarter_t _ (u125.getD u129.toNat 0) (u125.getD (w64 (4+(Int.tmod (w64 (u129+u104)) 4))).toNat 0) (u125.getD (w64 (8+(Int.tmod (w64 (u129+(w64 (2*u104)))) 4))).toNat 0) (u125.getD (w64 (12+(Int.tmod (w64 (u129+(w64 (3*u104)))) 4))).toNat 0) _ h166) ?_
       rintro _ w ⟨rfl,hG⟩ a hk
       have hs:=hs.call0 hG
       refine se (hs.pick [(1,1)] rfl) hk (hK_r148_16 _ _ ?_)
       refine ta2 hk rfl rfl (fun K_r148_17 hK_r148_17 w hF=>?_) wt2_stop
       have hs:=hs.f hF
       refine mv hk rfl fun a hk=>se (hs.pick [(1,1)] rfl) hk (hK_r148_17 _ _ ?_)
       refine tq2 (vI iU y165.1) hk rfl rfl rfl rfl (fun w hs=>sv (vI iU y165.1) hk rfl rfl rfl fun a hk=>qe hk) fun a hk=>tq2 (vI iU y165.2.1) hk rfl rfl rfl rfl (fun w hs=>sv (vI iU y165.2.1) hk rfl rfl rfl fun a hk=>qe hk) fun a hk=>tq2 (vI iU y165.2.2.1) hk rfl rfl rfl rfl (fun w hs=>sv (vI iU y165.2.2.1) hk rfl rfl rfl fun a hk=>qe hk) fun a hk=>tq2 (vI iU y165.2.2.2) hk rfl rfl rfl rfl (fun w hs=>sv (vI iU y165.2.2.2) hk rfl rfl rfl fun a hk=>qe hk) fun a hk=>ta2 hk rfl rfl (fun K_r148_22 hK_r148_22 w hF=>?_) wt2_stop
       have hs:=hs.f hF
       obtain ⟨c167,H⟩:=ite_no H
       obtain ⟨b168,q169,hAc167⟩:=(o127.view).some_ u129 c167.1 (by rw [lh128];exact c167.2)
       refine sia rfl hk rfl rfl rfl rfl un139 sz110 c167.1 c167.2 hAc167 fun a hk=>se (hs.pick [(1,1)] rfl) hk (hK_r148_22 _ _ ?_)
       refine ta2 hk rfl rfl (fun K_r148_23 hK_r148_23 w hF=>?_) wt2_stop
       have hs:=hs.f hF
       refine so (j:=0) 2 0 y165.1 hs rfl o127 c167.1 (by rw [lh128];exact c167.2) rfl hk rfl rfl rfl rfl rfl sz110 (by simp [Value.cells,Value.oneCell']) (Nat.le_of_ble_eq_true rfl) (fun _ _ h=>⟨by rw [h.1];rfl,h.2⟩) fun k170 w a hk o171 hs=>?_
       have lh172:(u125.set u129.toNat y165.1).length=16:=by rw [List.length_set];exact lh128
       refine se (hs.pick [(1,1)] rfl) hk (hK_r148_23 _ _ ?_)
       refine ta2 hk rfl rfl (fun K_r148_24 hK_r148_24 w hF=>?_) wt2_stop
       have hs:=hs.f hF
       obtain ⟨c173,H⟩:=ite_no H
       obtain ⟨b174,q175,hAc173⟩:=(o171.view).some_ (w64 (4+(Int.tmod (w64 (u129+u104)) 4))) c173.1 (by rw [lh172];exact c173.2)
       refine sia rfl hk rfl rfl rfl rfl un139 sz110 c173.1 c173.2 hAc173 fun a hk=>se (hs.pick [(1,1)] rfl) hk (hK_r148_24 _ _ ?_)
       refine ta2 hk rfl rfl (fun K_r148_25 hK_r148_25 w hF=>?_) wt2_stop
       have hs:=hs.f hF
       refine so (j:=0) 2 0 y165.2.1 hs rfl o171 c173.1 (by rw [lh172];exact c173.2) rfl hk rfl rfl rfl rfl rfl sz110 (by simp [Value.cells,Value.oneCell']) (Nat.le_of_ble_eq_true rfl) (fun _ _ h=>⟨by rw [h.1];rfl,h.2⟩) fun k176 w a hk o177 hs=>?_
       have lh178:((u125.set u129.toNat y165.1).set (w64 (4+(Int.tmod (w64 (u129+u104)) 4))).toNat y165.2.1).length=16:=by rw [List.length_set];exact lh172
       refine se (hs.pick [(1,1)] rfl) hk (hK_r148_25 _ _ ?_)
       refine ta2 hk rfl rfl (fun K_r148_26 hK_r148_26 w hF=>?_) wt2_stop
       have hs:=hs.f hF
       obtain ⟨c179,H⟩:=ite_no H
       obtain ⟨b180,q181,hAc179⟩:=(o177.view).some_ (w64 (8+(Int.tmod (w64 (u129+(w64 (2*u104)))) 4))) c179.1 (by rw [lh178];exact c179.2)
       refine sia rfl hk rfl rfl rfl rfl un139 sz110 c179.1 c179.2 hAc179 fun a hk=>se (hs.pick [(1,1)] rfl) hk (hK_r148_26 _ _ ?_)
       refine ta2 hk rfl rfl (fun K_r148_27 hK_r148_27 w hF=>?_) wt2_stop
       have hs:=hs.f hF
       refine so (j:=0) 2 0 y165.2.2.1 hs rfl o177 c179.1 (by rw [lh178];exact c179.2) rfl hk rfl rfl rfl rfl rfl sz110 (by simp [Value.cells,Value.oneCell']) (Nat.le_of_ble_eq_true rfl) (fun _ _ h=>⟨by rw [h.1];rfl,h.2⟩) fun k182 w a hk o183 hs=>?_
       have lh184:(((u125.set u129.toNat y165.1).set (w64 (4+(Int.tmod (w64 (u129+u104)) 4))).toNat y165.2.1).set (w64 (8+(Int.tmod (w64 (u129+(w64 (2*u104)))) 4))).toNat y165.2.2.1).length=16:=by rw [List.length_set];exact lh178
       refine se (hs.pick [(1,1)] rfl) hk (hK_r148_27 _ _ ?_)
       refine ta2 hk rfl rfl (fun K_r148_28 hK_r148_28 w hF=>?_) wt2_stop
       have hs:=hs.f hF
       obtain ⟨c185,H⟩:=ite_no H
       obtain ⟨b186,q187,hAc185⟩:=(o183.view).some_ (w64 (12+(Int.tmod (w64 (u129+(w64 (3*u104)))) 4))) c185.1 (by rw [lh184];exact c185.2)
       refine sia rfl hk rfl rfl rfl rfl un139 sz110 c185.1 c185.2 hAc185 fun a hk=>se (hs.pick [(1,1)] rfl) hk (hK_r148_28 _ _ ?_)
       refine tl2 hk rfl rfl fun K_r148_29 hK_r148_29 w hF=>?_
       have hs:=hs.f hF
       refine so (j:=0) 2 0 y165.2.2.2 hs rfl o183 c185.1 (by rw [lh184];exact c185.2) rfl hk rfl rfl rfl rfl rfl sz110 (by simp [Value.cells,Value.oneCell']) (Nat.le_of_ble_eq_true rfl) (fun _ _ h=>⟨by rw [h.1];rfl,h.2⟩) fun k188 w a hk o189 hs=>?_
       have lh190:((((u125.set u129.toNat y165.1).set (w64 (4+(Int.tmod (w64 (u129+u104)) 4))).toNat y165.2.1).set (w64 (8+(Int.tmod (w64 (u129+(w64 (2*u104)))) 4))).toNat y165.2.2.1).set (w64 (12+(Int.tmod (w64 (u129+(w64 (3*u104)))) 4))).toNat y165.2.2.2).length=16:=by rw [List.length_set];exact lh184
       refine se trivial hk (hK_r148_29 _ _ fun w hF=>?_)
       have hs:=hs.f hF
       refine hK145 _ _ ?_
       apply wp_region_lit
       refine sv (vI iS (w64 (u129+1))) hk rfl rfl rfl fun a hk=>mv hk rfl fun a hk=>?_
       show wpList _ _ _ [] _ _
       refine wpList_nil ?_
       obtain rfl:=osi H
       obtain ⟨m191,hmm191,h141⟩:=h141
       show ∃ n',n'<_∧I138 n' _ _
       refine ⟨m191,hmm191,?_⟩
       rw [hI138]
       exact ⟨_,_,_,h141,(hk.al rfl),(hs.pick [(1,1),(2,2)] rfl),o189,lh190⟩
      have hk:=hk.lit 47 c144 rfl
      refine cnd_false hk rfl rfl <| wp_exit ?_
      obtain rfl:=osi H
      show R137 _ _
      rw [hR137]
      exact ⟨_,_,h141.symm,(hk.al rfl),(hs.pick [(1,1),(2,2)] rfl),o127,lh128⟩
     intro a w hR0
     rw [hR137] at hR0
     obtain ⟨u130,k131,rfl,hk,hs,o132,lh133⟩:=hR0
     have H:=HL136
     try dsimp only at H
     refine hK120 _ _ ?_
     apply wp_region_lit
     refine sv (vI iS (w64 (u104+1))) hk rfl rfl rfl fun a hk=>mv hk rfl fun a hk=>?_
     show wpList _ _ _ [] _ _
     refine wpList_nil ?_
     obtain rfl:=osi H
     obtain ⟨m192,hmm192,h116⟩:=h116
     show ∃ n',n'<_∧I113 n' _ _
     refine ⟨m192,hmm192,?_⟩
     rw [hI113]
     exact ⟨_,_,_,h116,(hk.al rfl),(hs.pick [(1,1),(2,2)] rfl),o132,lh133⟩
    have hk:=hk.lit 44 c119 rfl
    refine cnd_false hk rfl rfl <| wp_exit ?_
    obtain rfl:=osi H
    show R112 _ _
    rw [hR112]
    exact ⟨_,_,h116.symm,(hk.al rfl),(hs.pick [(1,1),(2,2)] rfl),o102,lh103⟩
   intro a w hR0
   rw [hR112] at hR0
   obtain ⟨u105,k106,rfl,hk,hs,o107,lh108⟩:=hR0
   have H:=HL111
   try dsimp only at H
   refine hK96 _ _ ?_
   apply wp_region_lit
   refine sv (vI iS (w64 (u80+1))) hk rfl rfl rfl fun a hk=>mv hk rfl fun a hk=>?_
   show wpList _ _ _ [] _ _
   refine wpList_nil ?_
   obtain rfl:=osi H
   obtain ⟨m193,hmm193,h92⟩:=h92
   show ∃ n',n'<_∧I89 n' _ _
   refine ⟨m193,hmm193,?_⟩
   rw [hI89]
   exact ⟨_,_,_,h92,(hk.al rfl),(hs.pick [(1,1),(2,2)] rfl),o107,lh108⟩
  have hk:=hk.lit 42 c95 rfl
  refine cnd_false hk rfl rfl <| wp_exit ?_
  obtain rfl:=osi H
  show R88 _ _
  rw [hR88]
  exact ⟨_,_,h92.symm,(hk.al rfl),(hs.pick [(1,1),(2,2)] rfl),o78,lh79⟩
 intro a w hR0
 rw [hR88] at hR0
 obtain ⟨u81,k82,rfl,hk,hs,o83,lh84⟩:=hR0
 have H:=HL87
 try dsimp only at H
 refine hK72 _ _ <| sr fun _ hK194=>mv hk rfl fun a hk=>nx hK194 ?_
 have hs:=hs.pick [(1,1),(2,2)] rfl
 refine sq fun _ hK195=>sr fun _ hK196=>mv hk rfl fun a hk=>nx hK196 ?_
 obtain ⟨o202,h203,HL204⟩:=bind_some H
 clear H
 obtain ⟨R205,hR205⟩:=nm fun a w=>∃ (u201:ByteArray),o202 = .out u201∧Kn [(16,(vS u201))] 111 a∧Sat [] w0 w [] []
 refine wp_cutq R205 ?_ ?_
 ·refine wp_block ?_
  obtain ⟨fu207,h203⟩:=loopO_some h203
  obtain ⟨I206,hI206⟩:=nm fun fu a w=>∃ (u199:ByteArray) (u200:Int),loopN (fun s=>impl_stream.s4 u30 u81 s.1 s.2) fu (u199,u200)=some o202∧Kn [(8,(vP (some ⟨b9,0,none⟩))),(9,(vP (some ⟨b13,0,none⟩))),(16,(vS u199)),(95,(vI iS u200))] 111 a∧Sat [] w0 w [] [(1,k31),(2,k82)]
  refine wp_loop_ghost I206 fu207 ?_ ?_
  ·rw [hI206]
   exact ⟨_,_,h203,(hk.al rfl),(hs.pick [(1,1),(2,2)] rfl)⟩
  clear h203 hk hs
  intro fu207 a w hI0
  rw [hI206] at hI0
  obtain ⟨u199,u200,hi,hk,hs⟩:=hI0
  obtain ⟨x208,H,h209⟩:=loop_round hi
  try dsimp only at H
  unfold impl_stream.s4 at H
  refine sr fun _ hK210=>sv (.bool (decide (u200<16))) hk rfl rfl rfl fun a hk=>nx hK210 <| sq fun _ hK211=>?_
  rcases cond_some H with ⟨c212,H⟩ | ⟨c212,H⟩
  ·have hk:=hk.lit 96 c212 rfl
   refine cnd_true hk rfl rfl <| wp_skip <| hK211 _ _ <| sq fun _ hK213=>wp_block ?_
   refine sr fun _ hK214=>mv hk rfl fun a hk=>mv hk rfl fun a hk=>nx hK214 <| wp_region_tree (.q 0 (.q 1 (.q 2 (.q 3 (.alt 4 (.alt 5 (.alt 6 (.alt 7 (.alt 8 (.alt 9 (.alt 10 (.last 11) .stop) .stop) .stop) .stop) .stop) .stop) .stop))))) mo (by kernel_rfl) (hs.pick [(1,1),(2,2)] rfl) fun _=>?_
   have hs:=hs.drew
   refine tqm hk rfl fun a hk=>tqm hk rfl fun a hk=>?_
   obtain ⟨c216,H⟩:=ite_no H
   obtain ⟨b217,q218,hAc216⟩:=(o83.view).some_ u200 c216.1 (by rw [lh84];exact c216.2)
   refine tqst _ hk rfl rfl rfl rfl (fun w hs=>sia rfl hk rfl rfl rfl rfl un139 sz110 c216.1 c216.2 hAc216 fun a hk=>qe hk) fun a hk=>?_
   obtain ⟨_,rfl,e219⟩:=(o83.view).at_ 0 u200 c216.1 (by rw [lh84];exact c216.2)
   refine tqst _ hk rfl rfl rfl rfl (fun w hs=>sl (v:=(vI iU (u81.getD u200.toNat 0))) rfl hk rfl rfl rfl ag110 ((e219 0 _ rfl).cell (hs.hasG (k:=2) rfl)) fun a hk=>qe hk) fun a hk=>tss hs hk rfl rfl fun _ hK_r215_4 w hs=>mv hk rfl fun a hk=>se (hs.pick [(1,1),(2,2)] rfl) hk (hK_r215_4 _ _ ?_)
   refine tss hs hk rfl rfl fun _ hK_r215_5 w hs=>?_
   obtain ⟨c220,H⟩:=ite_no H
   obtain ⟨b221,q222,hAc220⟩:=(o32.view).some_ u200 c220.1 (by rw [lh33];exact c220.2)
   refine sia rfl hk rfl rfl rfl rfl un139 sz110 c220.1 c220.2 hAc220 fun a hk=>se (hs.pick [(1,1),(2,2)] rfl) hk (hK_r215_5 _ _ ?_)
   refine tss hs hk rfl rfl fun _ hK_r215_6 w hs=>?_
   obtain ⟨_,rfl,e223⟩:=(o32.view).at_ 0 u200 c220.1 (by rw [lh33];exact c220.2)
   refine sl (v:=(vI iU (u30.getD u200.toNat 0))) rfl hk rfl rfl rfl ag110 ((e223 0 _ rfl).cell (hs.hasG (k:=1) rfl)) fun a hk=>se (hs.pick [(1,1),(2,2)] rfl) hk (hK_r215_6 _ _ ?_)
   refine tss hs hk rfl rfl fun _ hK_r215_7 w hs=>sv (vI iU (wR iU ((u81.getD u200.toNat 0)+(u30.getD u200.toNat 0)))) hk rfl rfl rfl fun a hk=>se (hs.pick [(1,1),(2,2)] rfl) hk (hK_r215_7 _ _ ?_)
   refine tss hs hk rfl rfl fun _ hK_r215_8 w hs=>scn rfl hk rfl rfl rfl un3 un110 fun a hk=>se (hs.pick [(1,1),(2,2)] rfl) hk (hK_r215_8 _ _ ?_)
   refine tss hs hk rfl rfl fun _ hK_r215_9 w hs=>?_
   obtain ⟨y224,h225,H⟩:=bind_some H
   refine sc rfl en84 hk rfl rfl rfl (impl_little_t _ (wR iS (wR iU ((u81.getD u200.toNat 0)+(u30.getD u200.toNat 0)))) 4 _ h225) ?_
   rintro _ w ⟨rfl,hG⟩ a hk
   have hs:=hs.call0 hG
   refine se (hs.pick [(1,1),(2,2)] rfl) hk (hK_r215_9 _ _ ?_)
   refine tss hs hk rfl rfl fun _ hK_r215_10 w hs=>?_
   obtain ⟨c226,H⟩:=ite_no H
   refine ssa rfl hk rfl rfl rfl rfl c226 fun a hk=>se (hs.pick [(1,1),(2,2)] rfl) hk (hK_r215_10 _ _ ?_)
   refine tlst hk rfl rfl fun K_r215_11 hK_r215_11 w hF=>?_
   have hs:=hs.f hF
   refine mv hk rfl fun a hk=>se trivial hk (hK_r215_11 _ _ fun w hF=>?_)
   have hs:=hs.f hF
   refine hK213 _ _ ?_
   apply wp_region_lit
   refine sv (vI iS (w64 (u200+1))) hk rfl rfl rfl fun a hk=>mv hk rfl fun a hk=>?_
   show wpList _ _ _ [] _ _
   refine wpList_nil ?_
   obtain rfl:=osi H
   obtain ⟨m227,hmm227,h209⟩:=h209
   show ∃ n',n'<_∧I206 n' _ _
   refine ⟨m227,hmm227,?_⟩
   rw [hI206]
   exact ⟨_,_,h209,(hk.al rfl),(hs.pick [(1,1),(2,2)] rfl)⟩
  have hk:=hk.lit 96 c212 rfl
  refine cnd_false hk rfl rfl <| wp_exit ?_
  obtain rfl:=osi H
  show R205 _ _
  rw [hR205]
  exact ⟨_,h209.symm,(hk.al rfl),(hs.pick [] rfl)⟩
 intro a w hR0
 rw [hR205] at hR0
 obtain ⟨u201,rfl,hk,hs⟩:=hR0
 have H:=HL204
 try dsimp only at H
 refine hK195 _ _ <| sr fun _ hK228=>mv hk rfl fun a hk=>mv hk rfl fun a hk=>nx hK228 <| wp_ret ?_
 obtain rfl:=osi H
 exact fin hk _ [(vS u201)] rfl ⟨rfl,trivial⟩ ⟨rfl,(hs.pick [] rfl).dnil⟩
noncomputable def impl_chaXor.s0 (x0:ByteArray) (x1:ByteArray) (x2:Int) (x3:ByteArray) (u1:Int) (u2:ByteArray):Option ((Int×ByteArray) ⊕ Ex (ByteArray) (ByteArray)) :=
  (bif (decide (u1<(x3.size:Int))) then (if 0≤u1∧u1≤(if (x3.size:Int)<(w64 (u1+64)) then (x3.size:Int) else (w64 (u1+64)))∧(if (x3.size:Int)<(w64 (u1+64)) then (x3.size:Int) else (w64 (u1+64)))≤(x3.size:Int) then ((impl_stream.f x0 x1 (w64 (x2+(wR iS (Int.tdiv u1 64))))).bind fun y1=>((impl_xor.f (x3.extract u1.toNat (if (x3.size:Int)<(w64 (u1+64)) then (x3.size:Int) else (w64 (u1+64))).toNat) y1).bind fun y2=>(if u2.size+y2.size≤1073741824 then (some (.inl ((w64 (u1+64)),(u2++y2)))) else none))) else none) else (some (.inr (.out u2))))
noncomputable def impl_chaXor.f (x0:ByteArray) (x1:ByteArray) (x2:Int) (x3:ByteArray):Option (ByteArray) :=
  ((loopO (fun s=>impl_chaXor.s0 x0 x1 x2 x3 s.1 s.2) (0,(⟨#[]⟩:ByteArray))).bind fun o=>match o with | .out u=>(some u) | .ret r=>(some r))
theorem impl_chaXor_n:True:=trivial
section
open Go.Shelf
theorem bsz:(Tryz.prog.info? 123).map (·.size)=some 2:=by kernel_rfl
theorem bli:liesAt Tryz.prog Tryz.prog.depth 123 (2 / Tryz.prog.cellsOf 123) 0 123 1=true:=by kernel_rfl
set_option maxHeartbeats 1000000 in
set_option maxRecDepth 100000 in
theorem cc_used (b:Nat) (w:World) (h0:w.cell? ⟨b,0,none⟩=some (vP (some ⟨b,0,none⟩))) :
    Calls Tryz.prog 115 #[vP (some ⟨b,0,none⟩)] w fun e w'=>e = .returned (.tuple #[])∧w'=w:=by
 obtain ⟨j,hj,_⟩:=Option.map_eq_some_iff.1 bsz
 go_enter Tryz.func115,Tryz.ntmps115
 go_wp2
 rw [Lib.run_neq_ptr_same w _ Tryz.underlying121 hj]
 go_wp2
 go_end0
 exact ⟨rfl,rfl⟩
set_option maxHeartbeats 1000000 in
set_option maxRecDepth 100000 in
theorem cc_fresh (b:Nat) (w:World) (h0:w.cell? ⟨b,0,none⟩=some (vP none)) (hsh:w.shape? b=some (123,2)) (hfz:w.frozen? ⟨b,0,none⟩=false) :
    Calls Tryz.prog 115 #[vP (some ⟨b,0,none⟩)] w fun e w'=>e = .returned (.tuple #[])∧w'=w.setCell ⟨b,0,none⟩ (vP (some ⟨b,0,none⟩)):=by
  obtain ⟨j,hj,hjs⟩:=Option.map_eq_some_iff.1 bsz
  go_enter Tryz.func115,Tryz.ntmps115
  go_wp2
  rw [Lib.run_to_unsafe w ⟨b,0,none⟩ Tryz.underlying121 Tryz.underlying160 hj (by rw [hjs];decide) hsh (Nat.zero_lt_succ 1)]
  simp only [Result.andThen]
  rw [Oper.upon_value]
  go_wp2
  rw [run_callFunc_extern Tryz.func136 (by kernel_rfl) (by kernel_rfl) (by kernel_rfl) (e:=Extern.AbiNoEscape.same) (by kernel_rfl)]
  rw [Lib.run_noEscape]
  simp only [Result.andThen]
  rw [Oper.upon_value]
  go_wp2
  rw [Lib.run_from_unsafe w ⟨b,0,none⟩ Tryz.underlying160 Tryz.underlying121 hj hsh bli]
  simp only [Result.andThen]
  rw [Oper.upon_value]
  go_wp2
  go_end0
  exact ⟨rfl,rfl⟩
theorem cc (B b:Nat) (bs:List Value) (w:World) (h:Lib.IsBuilder 123 5 B b bs w) :
    Calls Tryz.prog 115 #[vP (some ⟨b,0,none⟩)] w fun e w'=>e = .returned (.tuple #[])∧(Lib.BuilderAt 123 5 B b (vP (some ⟨b,0,none⟩)) bs w'∧Below B w w'):=by
  rcases h with h | h
  · refine (cc_fresh b w h.cell0 h.shape h.frozen0).mono ?_
    rintro e w' ⟨rfl,rfl⟩
    exact ⟨rfl,h.used _,(Below.refl B w).setCell (p:=⟨b,0,none⟩) h.1 _⟩
  · refine (cc_used b w h.cell0).mono ?_
    rintro e w' ⟨rfl,rfl⟩
    exact ⟨rfl,h,Below.refl B _⟩
set_option maxHeartbeats 2000000 in
set_option maxRecDepth 100000 in
theorem ws (B b:Nat) (bs:List Value) (s:ByteArray) (w:World) (h:Lib.IsBuilder 123 5 B b bs w) (hlen:bs.length+s.size≤140737488355328) (hBw:B≤w.heap.size) :
    Calls Tryz.prog 99 #[vP (some ⟨b,0,none⟩),vS s] w fun e w'=>e = .returned (.tuple #[vI iS s.size,.nilIface])∧(Lib.BuilderAt 123 5 B b (vP (some ⟨b,0,none⟩)) (bs++Lib.strCells s) w'∧Below B w w'):=by
  obtain ⟨i0,hi,hz0,hz1,hz2⟩:=info_parts (by kernel_rfl:(Tryz.prog.info? 5).map (fun i=>(i.zero,i.size,i.bytes))=some (some (vI iB 0),1,1))
  have e240:∀ args w,(callFunc 115 args).run Tryz.prog w = .ok (.enter 115 args) w:=enters_of Tryz.func115 (by kernel_rfl) rfl
  go_enter Tryz.func99,Tryz.ntmps99
  go_wp2_with (go_at_fn 115;refine (cc B b bs _ h).mono ?_)
  rintro e w1 ⟨rfl,h1,hb1⟩
  obtain ⟨hB,v,hbk,hown,hne⟩:=h1
  have c0:w1.cell? ⟨b,0,none⟩=some (vP (some ⟨b,0,none⟩)):=by rw [Lib.cell_of_heap hbk];rfl
  have c1:w1.cell? ⟨b,1,none⟩=some v:=by rw [Lib.cell_of_heap hbk];rfl
  go_wp2_with (at_builtin;refine Lib.wpList_append_own_string _ rfl _ _ 101 9 rfl B 5 i0 Tryz.underlying101 Tryz.underlying9 hi hz0 hz1 hz2 _ _ _ rfl hown s rfl ?c3 ?c4 ?c5 ?_)
  case c3=>unfold maxLen;omega
  case c4=>omega
  case c5=>have:=hb1.size;omega
  intro v' w2 hown' hgrow _
  have hlt:b<w1.heap.size:=by
    rcases Nat.lt_or_ge b w1.heap.size with h' | h'
    · exact h'
    · simp [Array.getElem?_eq_none h'] at hbk
  have hb2:w2.heap[b]? = some (.cells #[vP (some ⟨b,0,none⟩),v] 123 (0,0)):=by
    rw [hgrow.block b hlt (fun e=>hne e.symm)]
    exact hbk
  have d0:w2.cell? ⟨b,0,none⟩=some (vP (some ⟨b,0,none⟩)):=by rw [Lib.cell_of_heap hb2];rfl
  have d1:w2.cell? ⟨b,1,none⟩=some v:=by rw [Lib.cell_of_heap hb2];rfl
  have f1:w2.frozen? ⟨b,1,none⟩=false:=Lib.frozen_of_heap hb2 1
  obtain ⟨ao,n',cap,rfl⟩:∃ ao n' cap,v'=vL ao n' cap:=by
    rcases hown'.2 with ⟨hv,_⟩ | ⟨g,cap,cur,hv,_⟩
    · exact ⟨_,_,_,hv⟩
    · exact ⟨_,_,_,hv⟩
  go_wp2
  go_ret2
  refine ⟨rfl,?_,?_⟩
  · exact Lib.BuilderAt.put (T:=123) (e:=5) hB hb2 (bs':=bs++Lib.strCells s) (by simpa [Lib.strCells_length] using hown') (by decide)
  · exact (hb1.grown hgrow (by have:=hb1.size;omega) (fun k hk=>(hown.lt k hk).1)).setCell (p:=⟨b,1,none⟩) hB _
def lays169_ren:Go.Shelf.Ren:=⟨fun | 169=>102 | n=>n,fun | 70=>121 | 9=>9 | 0=>0 | 72=>123 | 37=>101 | 127=>143 | 3=>3 | 5=>5 | n=>n,fun | n=>n⟩
theorem lays169:Go.Proofs.Lays.n169 Tryz.prog lays169_ren:={
  mixed:=by kernel_rfl
  f169:=Tryz.func102.trans (congrArg some (by kernel_rfl))
  t0:=Tryz.underlying0
  a0:=Tryz.isAgg0
  z0:=Tryz.sizeOf0
  v0:=Tryz.zeroValue0
  t3:=Tryz.underlying3
  a3:=Tryz.isAgg3
  z3:=Tryz.sizeOf3
  v3:=Tryz.zeroValue3
  t9:=Tryz.underlying9
  a9:=Tryz.isAgg9
  z9:=Tryz.sizeOf9
  v9:=Tryz.zeroValue9
  t37:=Tryz.underlying101
  a37:=Tryz.isAgg101
  z37:=Tryz.sizeOf101
  v37:=Tryz.zeroValue101
  t70:=Tryz.underlying121
  a70:=Tryz.isAgg121
  z70:=Tryz.sizeOf121
  v70:=Tryz.zeroValue121
  t72:=Tryz.underlying123
  a72:=Tryz.isAgg123
  z72:=Tryz.sizeOf123
  v72:=Tryz.zeroValue123
  t127:=Tryz.underlying143
  a127:=Tryz.isAgg143
  z127:=Tryz.sizeOf143
  v127:=Tryz.zeroValue143 }
theorem Builder_Extra_169:Builder.Extra Tryz.prog lays169_ren:={
  sizeBuilder:=by kernel_rfl
  liesBuilder:=by kernel_rfl
  t5:=Tryz.underlying5
  a5:=Tryz.isAgg5
  z5:=Tryz.sizeOf5
  v5:=Tryz.zeroValue5
  infoByte:=by kernel_rfl
  cellsByte:=by kernel_rfl
  sizeByte:=by kernel_rfl
  neB5:=by decide }
open Go.RowKit in
theorem Builder_String (B b:Nat) (l:List UInt8) (w:World) (h:Lib.IsBuilder 123 5 B b (Lib.byteCells l) w) (h0:l≠[]) :
    Calls Tryz.prog 102 #[vP (some ⟨b,0,none⟩)] w fun e w'=>e = .returned (vS ⟨l.toArray⟩)∧Below B w w':=Any.Builder_String lays169 Builder_Extra_169 B b l w h h0
open Go.RowKit in
theorem Builder_String_empty (B b:Nat) (w:World) (h:Lib.IsBuilder 123 5 B b [] w) (hBw:B≤w.heap.size) :
    Calls Tryz.prog 102 #[vP (some ⟨b,0,none⟩)] w fun e w'=>e = .returned (vS ⟨#[]⟩)∧Below B w w':=Any.Builder_String_empty lays169 Builder_Extra_169 B b w h hBw
open Go.RowKit in
theorem Builder_String_any (B b:Nat) (l:List UInt8) (w:World) (h:Lib.IsBuilder 123 5 B b (Lib.byteCells l) w) (hBw:B≤w.heap.size) :
    Calls Tryz.prog 102 #[vP (some ⟨b,0,none⟩)] w fun e w'=>e = .returned (vS ⟨l.toArray⟩)∧Below B w w':=Any.Builder_String_any lays169 Builder_Extra_169 B b l w h hBw
end
set_option maxRecDepth 100000 in
set_option maxHeartbeats 1000000 in
theorem impl_chaXor_t (w0:World) (x0:ByteArray) (x1:ByteArray) (x2:Int) (x3:ByteArray) (r:ByteArray) (H:impl_chaXor.f x0 x1 x2 x3=some r) :
    Calls Tryz.prog 82 #[vS x0,vS x1,vI iS x2,vS x3] w0 (Ret (fun v w=>v=vS r∧Sat [] w0 w [] [])):=by
 unfold impl_chaXor.f at H
 refine enter Tryz.func82 rfl Tryz.ntmps82 rfl fun a hk=>sr fun _ hK1=>mv hk rfl fun a hk=>nx hK1 <| sr fun _ hK2=>sal rfl hk rfl rfl (by kernel_rfl:zeroB Tryz.prog 123=some (.agg #[vP none,vL none 0 0])) fun a hk=>nx hK2 ?_
 have hgen:∃ w b,w=(w0.alloc (.cells (Value.cells (.agg #[vP none,vL none 0 0])) 123))∧b=w0.heap.size∧Lib.IsBuilder 123 5 w0.heap.size b (Lib.byteCells (⟨#[]⟩:ByteArray).data.toList) w∧Below w0.heap.size w0 w :=
   ⟨_,_,rfl,rfl,Lib.fresh_isBuilder 123 5 w0,(Below.refl _ w0).alloc (Nat.le_refl _) _⟩
 obtain ⟨w,b,ew,eb,hb,hbel⟩:=hgen
 rw [← eb] at hk
 rw [← ew]
 clear ew eb
 refine sq fun _ hK3=>sr fun _ hK4=>mv hk rfl fun a hk=>nx hK4 ?_
 obtain ⟨o,h,HL⟩:=bind_some H
 clear H
 obtain ⟨R,hR⟩:=nm fun a w=>∃ u:ByteArray,o = .out u∧Kn [(9,vP (some ⟨b,0,none⟩))] 37 a∧Lib.IsBuilder 123 5 w0.heap.size b (Lib.byteCells u.data.toList) w∧Below w0.heap.size w0 w
 refine wp_cutq R ?_ ?_
 ·refine wp_block ?_
  obtain ⟨fu,h⟩:=loopO_some h
  obtain ⟨I,hI⟩:=nm fun fu a w=>∃ (u1:Int) (u2:ByteArray),loopN (fun s=>impl_chaXor.s0 x0 x1 x2 x3 s.1 s.2) fu (u1,u2)=some o∧Kn [(0,vS x0),(1,vS x1),(2,vI iS x2),(3,vS x3),(9,vP (some ⟨b,0,none⟩)),(10,vI iS u1)] 37 a∧Lib.IsBuilder 123 5 w0.heap.size b (Lib.byteCells u2.data.toList) w∧Below w0.heap.size w0 w
  refine wp_loop_ghost I fu ?_ ?_
  ·rw [hI]
   exact ⟨0,_,h,(hk.al rfl),hb,hbel⟩
  clear h hk hb hbel
  intro fu a w hI0
  rw [hI] at hI0
  obtain ⟨u1,u2,hi,hk,hb,hbel⟩:=hI0
  obtain ⟨x13,H,h14⟩:=loop_round hi
  try dsimp only at H
  unfold impl_chaXor.s0 at H
  refine sq fun _ hK15=>sr fun _ hK16=>mv hk rfl fun a hk=>mv hk rfl fun a hk=>sles rfl hk rfl rfl rfl un9 fun a hk=>sv (.bool (decide (u1<(x3.size:Int)))) hk rfl rfl rfl fun a hk=>nx hK16 ?_
  rcases cond_some H with ⟨c17,H⟩ | ⟨c17,H⟩
  ·have hk:=hk.lit 15 c17 rfl
   refine cnd_true hk rfl rfl <| wp_skip <| hK15 _ _ <| sq fun _ hK18=>wp_block ?_
   refine sr fun _ hK19=>mv hk rfl fun a hk=>mv hk rfl fun a hk=>mv hk rfl fun a hk=>sv (vI iS (w64 (u1+64))) hk rfl rfl rfl fun a hk=>mv hk rfl fun a hk=>sles rfl hk rfl rfl rfl un9 fun a hk=>smn rfl hk rfl rfl rfl rfl fun a hk=>?_
   obtain ⟨c21,H⟩:=ite_no H
   refine ssl_lh rfl hk rfl rfl rfl rfl rfl un9 c21.1 c21.2.1 c21.2.2 fun a hk=>mv hk rfl fun a hk=>nx hK19 ?_
   apply wp_region_lit
   refine mv hk rfl fun a hk=>mv hk rfl fun a hk=>mv hk rfl fun a hk=>mv hk rfl fun a hk=>mv hk rfl fun a hk=>sv (vI iS (wR iS (Int.tdiv u1 64))) hk rfl rfl rfl fun a hk=>sv (vI iS (w64 (x2+(wR iS (Int.tdiv u1 64))))) hk rfl rfl rfl fun a hk=>?_
   obtain ⟨y24,h24,H⟩:=bind_some H
   refine sc rfl en101 hk rfl rfl rfl (impl_stream_t _ x0 x1 (w64 (x2+(wR iS (Int.tdiv u1 64)))) y24 h24) ?_
   rintro _ w1 ⟨rfl,hG1⟩ a hk
   obtain ⟨y25,h26,H⟩:=bind_some H
   refine sc rfl en100 hk rfl rfl rfl (impl_xor_t _ (x3.extract u1.toNat (if (x3.size:Int)<(w64 (u1+64)) then (x3.size:Int) else (w64 (u1+64))).toNat) y24 y25 h26) ?_
   rintro _ w2 ⟨rfl,hG2⟩ a hk
   have hG:Below w.heap.size w w2:=hG1.below.trans (hG2.below.mono hG1.below.size)
   have hb2:Lib.IsBuilder 123 5 w0.heap.size b (Lib.byteCells u2.data.toList) w2:=by
     rcases hb with hb | hb
     ·exact .inl (bld_F hb hG)
     ·exact .inr (bld_F hb hG)
   have hbel2:Below w0.heap.size w0 w2:=hbel.trans (hG.mono hbel.size)
   obtain ⟨c27,H⟩:=ite_no H
   refine sc rfl en99 hk rfl rfl rfl ((ws w0.heap.size b _ y25 w2 hb2 (by rw [Lib.byteCells_length,ba_len];omega) hbel2.size).mono (R':=Ret (fun v w'=>v = .tuple #[vI iS y25.size,.nilIface]∧(Lib.BuilderAt 123 5 w0.heap.size b (vP (some ⟨b,0,none⟩)) (Lib.byteCells u2.data.toList++Lib.strCells y25) w'∧Below w0.heap.size w2 w'))) (fun e w' h=>⟨_,h.1,rfl,h.2⟩)) ?_
   rintro _ w3 ⟨rfl,hb3,hbel3⟩ a hk
   refine nx hK18 ?_
   apply wp_region_lit
   refine mv hk rfl fun a hk=>sv (vI iS (w64 (u1+64))) hk rfl rfl rfl fun a hk=>mv hk rfl fun a hk=>?_
   show wpList _ _ _ [] _ _
   refine wpList_nil ?_
   obtain rfl:=osi H
   obtain ⟨m,hmm,h14⟩:=h14
   show ∃ n',n'<_∧I n' _ _
   refine ⟨m,hmm,?_⟩
   rw [hI]
   exact ⟨_,_,h14,(hk.al rfl),.inr (by rw [bc_app];exact hb3),hbel2.trans hbel3⟩
  have hk:=hk.lit 15 c17 rfl
  refine cnd_false hk rfl rfl <| wp_exit ?_
  obtain rfl:=osi H
  show R _ _
  rw [hR]
  exact ⟨_,h14.symm,(hk.al rfl),hb,hbel⟩
 intro a w hR0
 rw [hR] at hR0
 obtain ⟨u,rfl,hk,hb,hbel⟩:=hR0
 have H:=HL
 try dsimp only at H
 obtain rfl:=osi H
 refine hK3 _ _ <| sr fun _ hK5=>sc rfl en102 hk rfl rfl rfl ((Builder_String_any w0.heap.size b _ w hb hbel.size).mono (R':=Ret (fun v w'=>v=vS u∧Below w0.heap.size w w')) (fun e w' h=>⟨_,h.1,rfl,h.2⟩)) ?_
 rintro _ w4 ⟨rfl,hbel4⟩ a hk
 refine mv hk rfl fun a hk=>nx hK5 <| wp_ret ?_
 exact fin hk _ [(vS u)] rfl ⟨rfl,trivial⟩ ⟨rfl,Sat.ofBelow (hbel.trans hbel4)⟩
noncomputable def impl_limbsOf.s1 (x0:ByteArray) (u24:Int) (u49:List Int) (u53:Int):Option (((List Int)×Int) ⊕ Ex ((List Int)) ((List Int))) :=
  (bif (decide (u53<8)) then (if 0≤u53 then (((bif ((wR iB ((bO 8 (Int.fdiv ((bytesOf x0).getD u24.toNat 0) (2 ^ min u53.toNat 8)) &&& bO 8 1).toNat:Int))==1) then (if 0≤(wR iS (Int.tdiv (w64 ((w64 (8*u24))+u53)) 26))∧(wR iS (Int.tdiv (w64 ((w64 (8*u24))+u53)) 26))<(5:Int) then (if 0≤(Int.tmod (w64 ((w64 (8*u24))+u53)) 26) then (if 0≤(wR iS (Int.tdiv (w64 ((w64 (8*u24))+u53)) 26))∧(wR iS (Int.tdiv (w64 ((w64 (8*u24))+u53)) 26))<(5:Int) then (some (u49.set (wR iS (Int.tdiv (w64 ((w64 (8*u24))+u53)) 26)).toNat (wR .u64 ((bO 64 (u49.getD (wR iS (Int.tdiv (w64 ((w64 (8*u24))+u53)) 26)).toNat 0) ||| bO 64 (wR .u64 (1*2 ^ min (Int.tmod (w64 ((w64 (8*u24))+u53)) 26).toNat 64))).toNat:Int)))) else none) else none) else none) else (some u49)):Option ((List Int))).bind fun u75=>(some (.inl (u75,(w64 (u53+1)))))) else none) else (some (.inr (.out u49))))
noncomputable def impl_limbsOf.s0 (x0:ByteArray) (u20:List Int) (u24:Int):Option (((List Int)×Int) ⊕ Ex ((List Int)) ((List Int))) :=
  (bif (decide (u24<((bytesOf x0).length:Int))) then (if 0≤u24∧u24<((bytesOf x0).length:Int) then ((loopO (fun s=>impl_limbsOf.s1 x0 u24 s.1 s.2) (u20,0)).bind fun o=>match o with | .out u54=>(some (.inl (u54,(w64 (u24+1))))) | .ret r=>(some (.inr (.ret r)))) else none) else (some (.inr (.out u20))))
noncomputable def impl_limbsOf.f (x0:ByteArray):Option ((List Int)) :=
  (if x0.size≤1073741824 then ((loopO (fun s=>impl_limbsOf.s0 x0 s.1 s.2) ((List.replicate 5 (0:Int)),0)).bind fun o=>match o with | .out u25=>(some u25) | .ret r=>(some r)) else none)
theorem impl_limbsOf_t (w0:World) (x0:ByteArray) (r:(List Int)) (H:impl_limbsOf.f x0=some r) :
    Calls Tryz.prog 118 #[vS x0] w0 (Ret (fun v w=>v=aggI .u64 r∧r.length=5∧Sat [] w0 w [] [])):=by
 have hs:=sat0 w0 [] (by simp)
 unfold impl_limbsOf.f at H
 refine enter Tryz.func118 rfl Tryz.ntmps118 rfl fun a hk=>sr fun _ hK1=>sala 1 ((Lay.int .u64)) (m:=5) (z:=0) (zc:=[.int .u64 0]) hs rfl hk rfl rfl ze146 (by exact ⟨rfl,rfl⟩) rfl rfl rfl fun b2 k3 w a hk o4 hs=>?_
 have lh5:(List.replicate 5 (0:Int)).length=5:=List.length_replicate
 refine nx hK1 <| sr fun _ hK6=>sala 2 ((Lay.int .u64)) (m:=5) (z:=0) (zc:=[.int .u64 0]) hs rfl hk rfl rfl ze146 (by exact ⟨rfl,rfl⟩) rfl rfl rfl fun b7 k8 w a hk o9 hs=>?_
 have lh10:(List.replicate 5 (0:Int)).length=5:=List.length_replicate
 refine nx hK6 <| sq fun _ hK11=>sr fun _ hK12=>mv hk rfl fun a hk=>?_
 obtain ⟨c13,H⟩:=ite_no H
 refine scb 3 hs rfl hk rfl rfl rfl un9 un101 un5 c13 fun b14 p15 k16 w a hk o17 hs=>sle rfl hk rfl rfl rfl un101 fun a hk=>mv hk rfl fun a hk=>nx hK12 ?_
 obtain ⟨o29,h30,HL31⟩:=bind_some H
 clear H
 obtain ⟨R32,hR32⟩:=nm fun a w=>∃ (u25:List Int) (k26:Chunk),o29 = .out u25∧Kn [(2,(vP (some ⟨b2,0,none⟩))),(3,(vP (some ⟨b7,0,none⟩)))] 40 a∧Sat [] w0 w [] [(1,k3),(2,k26)]∧Own (Lay.int .u64) 146 (some ⟨b7,0,none⟩) 5 u25 k26∧u25.length=5
 refine wp_cutq R32 ?_ ?_
 ·refine wp_block ?_
  obtain ⟨fu34,h30⟩:=loopO_some h30
  obtain ⟨I33,hI33⟩:=nm fun fu a w=>∃ (u20:List Int) (u24:Int) (k21:Chunk),loopN (fun s=>impl_limbsOf.s0 x0 s.1 s.2) fu (u20,u24)=some o29∧Kn [(2,(vP (some ⟨b2,0,none⟩))),(3,(vP (some ⟨b7,0,none⟩))),(9,(vL (some ⟨b14,0,none⟩) (bytesOf x0).length p15)),(10,(vI iS ((bytesOf x0).length:Int))),(11,(vI iS u24))] 40 a∧Sat [] w0 w [] [(1,k3),(2,k21),(3,k16)]∧Own (Lay.int .u64) 146 (some ⟨b7,0,none⟩) 5 u20 k21∧u20.length=5
  refine wp_loop_ghost I33 fu34 ?_ ?_
  ·rw [hI33]
   exact ⟨_,_,_,h30,(hk.al rfl),(hs.pick [(1,1),(2,2),(3,3)] rfl),o9,lh10⟩
  clear h30 hk hs
  intro fu34 a w hI0
  rw [hI33] at hI0
  obtain ⟨u20,u24,k21,hi,hk,hs,o22,lh23⟩:=hI0
  obtain ⟨x35,H,h36⟩:=loop_round hi
  try dsimp only at H
  unfold impl_limbsOf.s0 at H
  refine sr fun _ hK37=>sv (.bool (decide (u24<((bytesOf x0).length:Int)))) hk rfl rfl rfl fun a hk=>nx hK37 <| sq fun _ hK38=>?_
  rcases cond_some H with ⟨c39,H⟩ | ⟨c39,H⟩
  ·have hk:=hk.lit 12 c39 rfl
   refine cnd_true hk rfl rfl <| wp_skip <| hK38 _ _ <| sq fun _ hK40=>wp_block ?_
   refine sr fun _ hK41=>mv hk rfl fun a hk=>?_
   obtain ⟨c42,H⟩:=ite_no H
   obtain ⟨b43,q44,hAc42⟩:=(o17.view).some_ u24 c42.1 c42.2
   refine si rfl hk rfl rfl rfl rfl un101 sz5 c42.1 c42.2 hAc42 fun a hk=>?_
   obtain ⟨_,rfl,e45⟩:=(o17.view).at_ 0 u24 c42.1 c42.2
   refine sl (v:=(vI iB ((bytesOf x0).getD u24.toNat 0))) rfl hk rfl rfl rfl ag5 ((e45 0 _ rfl).cell (hs.hasG (k:=3) rfl)) fun a hk=>mv hk rfl fun a hk=>mv hk rfl fun a hk=>nx hK41 <| sr fun _ hK46=>mv hk rfl fun a hk=>nx hK46 ?_
   obtain ⟨o58,h59,HL60⟩:=bind_some H
   clear H
   obtain ⟨R61,hR61⟩:=nm fun a w=>∃ (u54:List Int) (k55:Chunk),o58 = .out u54∧Kn [(2,(vP (some ⟨b2,0,none⟩))),(3,(vP (some ⟨b7,0,none⟩))),(9,(vL (some ⟨b14,0,none⟩) (bytesOf x0).length p15)),(10,(vI iS ((bytesOf x0).length:Int))),(11,(vI iS u24))] 40 a∧Sat [] w0 w [] [(1,k3),(2,k55),(3,k16)]∧Own (Lay.int .u64) 146 (some ⟨b7,0,none⟩) 5 u54 k55∧u54.length=5
   refine wp_cutq R61 ?_ ?_
   ·refine wp_block ?_
    obtain ⟨fu63,h59⟩:=loopO_some h59
    obtain ⟨I62,hI62⟩:=nm fun fu a w=>∃ (u49:List Int) (u53:Int) (k50:Chunk),loopN (fun s=>impl_limbsOf.s1 x0 u24 s.1 s.2) fu (u49,u53)=some o58∧Kn [(2,(vP (some ⟨b2,0,none⟩))),(3,(vP (some ⟨b7,0,none⟩))),(4,(vI iS u24)),(5,(vI iB ((bytesOf x0).getD u24.toNat 0))),(9,(vL (some ⟨b14,0,none⟩) (bytesOf x0).length p15)),(10,(vI iS ((bytesOf x0).length:Int))),(11,(vI iS u24)),(16,(vI iS u53))] 40 a∧Sat [] w0 w [] [(1,k3),(2,k50),(3,k16)]∧Own (Lay.int .u64) 146 (some ⟨b7,0,none⟩) 5 u49 k50∧u49.length=5
    refine wp_loop_ghost I62 fu63 ?_ ?_
    ·rw [hI62]
     exact ⟨_,_,_,h59,(hk.al rfl),(hs.pick [(1,1),(2,2),(3,3)] rfl),o22,lh23⟩
    clear h59 hk hs
    intro fu63 a w hI0
    rw [hI62] at hI0
    obtain ⟨u49,u53,k50,hi,hk,hs,o51,lh52⟩:=hI0
    obtain ⟨x64,H,h65⟩:=loop_round hi
    try dsimp only at H
    unfold impl_limbsOf.s1 at H
    refine sr fun _ hK66=>sv (.bool (decide (u53<8))) hk rfl rfl rfl fun a hk=>nx hK66 ?_
    have hs:=hs.pick [(1,1),(2,2),(3,3)] rfl
    refine sq fun _ hK67=>?_
    rcases cond_some H with ⟨c68,H⟩ | ⟨c68,H⟩
    ·have hk:=hk.lit 17 c68 rfl
     refine cnd_true hk rfl rfl <| wp_skip <| hK67 _ _ <| sq fun _ hK69=>wp_block ?_
     refine sr fun _ hK70=>mv hk rfl fun a hk=>mv hk rfl fun a hk=>nx hK70 <| sr fun _ hK71=>mv hk rfl fun a hk=>sv (vI iS (w64 (8*u24))) hk rfl rfl rfl fun a hk=>mv hk rfl fun a hk=>sv (vI iS (w64 ((w64 (8*u24))+u53))) hk rfl rfl rfl fun a hk=>mv hk rfl fun a hk=>nx hK71 <| sr fun _ hK72=>mv hk rfl fun a hk=>mv hk rfl fun a hk=>?_
     obtain ⟨c73,H⟩:=ite_no H
     refine ssr rfl hk rfl rfl rfl rfl c73 fun a hk=>sv (vI iB (bia1 (Int.fdiv ((bytesOf x0).getD u24.toNat 0) (2 ^ min u53.toNat 8)) 1)) hk rfl rfl rfl fun a hk=>sv (.bool ((bia1 (Int.fdiv ((bytesOf x0).getD u24.toNat 0) (2 ^ min u53.toNat 8)) 1)==1)) hk rfl rfl rfl fun a hk=>nx hK72 ?_
     obtain ⟨o79,h80,HL81⟩:=bind_some H
     clear H
     obtain ⟨R82,hR82⟩:=nm fun a w=>∃ (u75:List Int) (k76:Chunk),u75=o79∧Kn [(2,(vP (some ⟨b2,0,none⟩))),(3,(vP (some ⟨b7,0,none⟩))),(4,(vI iS u24)),(5,(vI iB ((bytesOf x0).getD u24.toNat 0))),(9,(vL (some ⟨b14,0,none⟩) (bytesOf x0).length p15)),(10,(vI iS ((bytesOf x0).length:Int))),(11,(vI iS u24)),(16,(vI iS u53))] 40 a∧Sat [] w0 w [] [(1,k3),(2,k76),(3,k16)]∧Own (Lay.int .u64) 146 (some ⟨b7,0,none⟩) 5 u75 k76∧u75.length=5
     refine wp_cutq R82 ?_ ?_
     ·have H:=h80
      rcases cond_some H with ⟨c83,H⟩ | ⟨c83,H⟩
      ·have hk:=hk.lit 27 c83 rfl
       refine cnd_true hk rfl rfl <| wp_region_tree (.q 0 (.q 1 (.q 2 (.q 3 (.alt 4 (.alt 5 (.alt 6 (.alt 7 (.alt 8 (.last 9) .stop) .stop) .stop) .stop) .stop))))) mo (by kernel_rfl) (hs.pick [(1,1),(2,2),(3,3)] rfl) fun _=>?_
       have hs:=hs.drew
       refine tqm hk rfl fun a hk=>tqv (vI iS (wR iS (Int.tdiv (w64 ((w64 (8*u24))+u53)) 26))) hk rfl rfl (fun _=>rfl) fun a hk=>?_
       obtain ⟨c85,H⟩:=ite_no H
       obtain ⟨b86,q87,hAc85⟩:=(o51.view).some_ (wR iS (Int.tdiv (w64 ((w64 (8*u24))+u53)) 26)) c85.1 (by rw [lh52];exact c85.2)
       refine tqst _ hk rfl rfl rfl rfl (fun w hs=>sia rfl hk rfl rfl rfl rfl un146 sz144 c85.1 c85.2 hAc85 fun a hk=>qe hk) fun a hk=>?_
       obtain ⟨_,rfl,e88⟩:=(o51.view).at_ 0 (wR iS (Int.tdiv (w64 ((w64 (8*u24))+u53)) 26)) c85.1 (by rw [lh52];exact c85.2)
       refine tqst _ hk rfl rfl rfl rfl (fun w hs=>sl (v:=(.int .u64 (u49.getD (wR iS (Int.tdiv (w64 ((w64 (8*u24))+u53)) 26)).toNat 0))) rfl hk rfl rfl rfl ag144 ((e88 0 _ rfl).cell (hs.hasG (k:=2) rfl)) fun a hk=>qe hk) fun a hk=>tss hs hk rfl rfl fun _ hK_r84_4 w hs=>mv hk rfl fun a hk=>se (hs.pick [(1,1),(2,2),(3,3)] rfl) hk (hK_r84_4 _ _ ?_)
       refine tss hs hk rfl rfl fun _ hK_r84_5 w hs=>sv (vI iS (Int.tmod (w64 ((w64 (8*u24))+u53)) 26)) hk rfl rfl rfl fun a hk=>se (hs.pick [(1,1),(2,2),(3,3)] rfl) hk (hK_r84_5 _ _ ?_)
       refine tss hs hk rfl rfl fun _ hK_r84_6 w hs=>?_
       obtain ⟨c89,H⟩:=ite_no H
       refine ssh rfl hk rfl rfl rfl rfl c89 fun a hk=>se (hs.pick [(1,1),(2,2),(3,3)] rfl) hk (hK_r84_6 _ _ ?_)
       refine tss hs hk rfl rfl fun _ hK_r84_7 w hs=>sv (.int .u64 (bio7 (u49.getD (wR iS (Int.tdiv (w64 ((w64 (8*u24))+u53)) 26)).toNat 0) (wR .u64 (1*2 ^ min (Int.tmod (w64 ((w64 (8*u24))+u53)) 26).toNat 64)))) hk rfl rfl rfl fun a hk=>se (hs.pick [(1,1),(2,2),(3,3)] rfl) hk (hK_r84_7 _ _ ?_)
       refine tss hs hk rfl rfl fun _ hK_r84_8 w hs=>?_
       obtain ⟨c90,H⟩:=ite_no H
       obtain ⟨b91,q92,hAc90⟩:=(o51.view).some_ (wR iS (Int.tdiv (w64 ((w64 (8*u24))+u53)) 26)) c90.1 (by rw [lh52];exact c90.2)
       refine sia rfl hk rfl rfl rfl rfl un146 sz144 c90.1 c90.2 hAc90 fun a hk=>se (hs.pick [(1,1),(2,2),(3,3)] rfl) hk (hK_r84_8 _ _ ?_)
       refine tlst hk rfl rfl fun K_r84_9 hK_r84_9 w hF=>?_
       have hs:=hs.f hF
       refine so (j:=0) 2 0 (bio7 (u49.getD (wR iS (Int.tdiv (w64 ((w64 (8*u24))+u53)) 26)).toNat 0) (wR .u64 (1*2 ^ min (Int.tmod (w64 ((w64 (8*u24))+u53)) 26).toNat 64))) hs rfl o51 c90.1 (by rw [lh52];exact c90.2) rfl hk rfl rfl rfl rfl rfl sz144 (by simp [Value.cells,Value.oneCell']) (Nat.le_of_ble_eq_true rfl) (fun _ _ h=>⟨by rw [h.1];rfl,h.2⟩) fun k93 w a hk o94 hs=>?_
       have lh95:(u49.set (wR iS (Int.tdiv (w64 ((w64 (8*u24))+u53)) 26)).toNat (bio7 (u49.getD (wR iS (Int.tdiv (w64 ((w64 (8*u24))+u53)) 26)).toNat 0) (wR .u64 (1*2 ^ min (Int.tmod (w64 ((w64 (8*u24))+u53)) 26).toNat 64)))).length=5:=by rw [List.length_set];exact lh52
       refine se trivial hk (hK_r84_9 _ _ fun w hF=>?_)
       have hs:=hs.f hF
       obtain rfl:=osi H
       show R82 _ _
       rw [hR82]
       exact ⟨(u49.set (wR iS (Int.tdiv (w64 ((w64 (8*u24))+u53)) 26)).toNat (bio7 (u49.getD (wR iS (Int.tdiv (w64 ((w64 (8*u24))+u53)) 26)).toNat 0) (wR .u64 (1*2 ^ min (Int.tmod (w64 ((w64 (8*u24))+u53)) 26).toNat 64)))),_,rfl,(hk.al rfl),(hs.pick [(1,1),(2,2),(3,3)] rfl),o94,lh95⟩
      have hk:=hk.lit 27 c83 rfl
      refine cnd_false hk rfl rfl <| wp_skip ?_
      obtain rfl:=osi H
      show R82 _ _
      rw [hR82]
      exact ⟨u49,_,rfl,(hk.al rfl),(hs.pick [(1,1),(2,2),(3,3)] rfl),o51,lh52⟩
     intro a w hR0
     rw [hR82] at hR0
     obtain ⟨u75,k76,rfl,hk,hs,o77,lh78⟩:=hR0
     have H:=HL81
     try dsimp only at H
     refine hK69 _ _ ?_
     apply wp_region_lit
     refine sv (vI iS (w64 (u53+1))) hk rfl rfl rfl fun a hk=>mv hk rfl fun a hk=>?_
     show wpList _ _ _ [] _ _
     refine wpList_nil ?_
     obtain rfl:=osi H
     obtain ⟨m96,hmm96,h65⟩:=h65
     show ∃ n',n'<_∧I62 n' _ _
     refine ⟨m96,hmm96,?_⟩
     rw [hI62]
     exact ⟨_,_,_,h65,(hk.al rfl),(hs.pick [(1,1),(2,2),(3,3)] rfl),o77,lh78⟩
    have hk:=hk.lit 17 c68 rfl
    refine cnd_false hk rfl rfl <| wp_exit ?_
    obtain rfl:=osi H
    show R61 _ _
    rw [hR61]
    exact ⟨_,_,h65.symm,(hk.al rfl),(hs.pick [(1,1),(2,2),(3,3)] rfl),o51,lh52⟩
   intro a w hR0
   rw [hR61] at hR0
   obtain ⟨u54,k55,rfl,hk,hs,o56,lh57⟩:=hR0
   have H:=HL60
   try dsimp only at H
   refine hK40 _ _ ?_
   have hs:=hs.pick [(1,1),(2,2),(3,3)] rfl
   apply wp_region_lit
   refine sv (vI iS (w64 (u24+1))) hk rfl rfl rfl fun a hk=>mv hk rfl fun a hk=>?_
   show wpList _ _ _ [] _ _
   refine wpList_nil ?_
   obtain rfl:=osi H
   obtain ⟨m97,hmm97,h36⟩:=h36
   show ∃ n',n'<_∧I33 n' _ _
   refine ⟨m97,hmm97,?_⟩
   rw [hI33]
   exact ⟨_,_,_,h36,(hk.al rfl),(hs.pick [(1,1),(2,2),(3,3)] rfl),o56,lh57⟩
  have hk:=hk.lit 12 c39 rfl
  refine cnd_false hk rfl rfl <| wp_exit ?_
  obtain rfl:=osi H
  show R32 _ _
  rw [hR32]
  exact ⟨_,_,h36.symm,(hk.al rfl),(hs.pick [(1,1),(2,2)] rfl),o22,lh23⟩
 intro a w hR0
 rw [hR32] at hR0
 obtain ⟨u25,k26,rfl,hk,hs,o27,lh28⟩:=hR0
 have H:=HL31
 try dsimp only at H
 refine hK11 _ _ <| sr fun _ hK98=>slna (k:=2) hs rfl o27 lh28 rfl hk rfl rfl rfl ag146 sz146 fun a hk=>sswa 1 u25 hs rfl o4 lh5 lh28 rfl rfl hk rfl rfl rfl rfl sz146 fun k99 w a hk o100 hs=>nx hK98 <| wp_ret ?_
 obtain rfl:=osi H
 exact fin hk _ [(aggI .u64 u25)] rfl ⟨⟨_,rfl,run_loadA ag146 sz146 o100 lh28 hs (q:=1) rfl⟩,trivial⟩ ⟨rfl,lh28,(hs.pick [] rfl).dnil⟩
noncomputable def impl_clamped.s0 (x0:ByteArray) (u13:List Int) (u17:Int):Option (((List Int)×Int) ⊕ Ex ((List Int)) (ByteArray)) :=
  (bif (decide (u17<16)) then (if 0≤u17∧u17<((bytesOf (x0.extract 0 (16:Int).toNat)).length:Int) then (if 0≤u17∧u17<((bytesOf (x0.extract 0 (16:Int).toNat)).length:Int) then (some (.inl ((u13.set u17.toNat (wR iB ((bO 8 (u13.getD u17.toNat 0) &&& bO 8 15).toNat:Int))),(w64 (u17+4))))) else none) else none) else (some (.inr (.out u13))))
noncomputable def impl_clamped.s1 (x0:ByteArray) (u49:List Int) (u53:Int):Option (((List Int)×Int) ⊕ Ex ((List Int)) (ByteArray)) :=
  (bif (decide (u53<16)) then (if 0≤u53∧u53<((bytesOf (x0.extract 0 (16:Int).toNat)).length:Int) then (if 0≤u53∧u53<((bytesOf (x0.extract 0 (16:Int).toNat)).length:Int) then (some (.inl ((u49.set u53.toNat (wR iB ((bO 8 (u49.getD u53.toNat 0) &&& bO 8 252).toNat:Int))),(w64 (u53+4))))) else none) else none) else (some (.inr (.out u49))))
noncomputable def impl_clamped.f (x0:ByteArray):Option (ByteArray) :=
  (if 0≤(16:Int)∧(16:Int)≤(x0.size:Int) then (if (x0.extract 0 (16:Int).toNat).size≤1073741824 then ((loopO (fun s=>impl_clamped.s0 x0 s.1 s.2) ((bytesOf (x0.extract 0 (16:Int).toNat)),3)).bind fun o=>match o with | .out u18=>((loopO (fun s=>impl_clamped.s1 x0 s.1 s.2) (u18,4)).bind fun o=>match o with | .out u54=>(some (strOfNums u54)) | .ret r=>(some r)) | .ret r=>(some r)) else none) else none)
theorem impl_clamped_t (w0:World) (x0:ByteArray) (r:ByteArray) (H:impl_clamped.f x0=some r) :
    Calls Tryz.prog 119 #[vS x0] w0 (Ret (fun v w=>v=vS r∧Sat [] w0 w [] [])):=by
 have hs:=sat0 w0 [] (by simp)
 unfold impl_clamped.f at H
 refine enter Tryz.func119 rfl Tryz.ntmps119 rfl fun a hk=>sr fun _ hK1=>mv hk rfl fun a hk=>nx hK1 <| sr fun _ hK2=>mv hk rfl fun a hk=>?_
 obtain ⟨c3,H⟩:=ite_no H
 refine ssl_h rfl hk rfl rfl rfl rfl un9 c3.1 c3.2 fun a hk=>?_
 obtain ⟨c4,H⟩:=ite_no H
 refine scb 1 hs rfl hk rfl rfl rfl un9 un101 un5 c4 fun b5 p6 k7 w a hk o8 hs=>mv hk rfl fun a hk=>nx hK2 <| sq fun _ hK9=>sr fun _ hK10=>mv hk rfl fun a hk=>nx hK10 ?_
 obtain ⟨o22,h23,HL24⟩:=bind_some H
 clear H
 obtain ⟨R25,hR25⟩:=nm fun a w=>∃ (u18:List Int) (k19:Chunk),o22 = .out u18∧Kn [(3,(vL (some ⟨b5,0,none⟩) (bytesOf (x0.extract 0 (16:Int).toNat)).length p6))] 31 a∧Sat [] w0 w [] [(1,k19)]∧OwnM (Lay.int iB) 5 (some ⟨b5,0,none⟩) p6 u18 k19∧u18.length=(bytesOf (x0.extract 0 (16:Int).toNat)).length
 refine wp_cutq R25 ?_ ?_
 ·refine wp_block ?_
  obtain ⟨fu27,h23⟩:=loopO_some h23
  obtain ⟨I26,hI26⟩:=nm fun fu a w=>∃ (u13:List Int) (u17:Int) (k14:Chunk),loopN (fun s=>impl_clamped.s0 x0 s.1 s.2) fu (u13,u17)=some o22∧Kn [(3,(vL (some ⟨b5,0,none⟩) (bytesOf (x0.extract 0 (16:Int).toNat)).length p6)),(4,(vI iS u17))] 31 a∧Sat [] w0 w [] [(1,k14)]∧OwnM (Lay.int iB) 5 (some ⟨b5,0,none⟩) p6 u13 k14∧u13.length=(bytesOf (x0.extract 0 (16:Int).toNat)).length
  refine wp_loop_ghost I26 fu27 ?_ ?_
  ·rw [hI26]
   exact ⟨_,_,_,h23,(hk.al rfl),(hs.pick [(1,1)] rfl),o8,rfl⟩
  clear h23 hk hs
  intro fu27 a w hI0
  rw [hI26] at hI0
  obtain ⟨u13,u17,k14,hi,hk,hs,o15,lh16⟩:=hI0
  obtain ⟨x28,H,h29⟩:=loop_round hi
  try dsimp only at H
  unfold impl_clamped.s0 at H
  refine sq fun _ hK30=>sr fun _ hK31=>mv hk rfl fun a hk=>sv (.bool (decide (u17<16))) hk rfl rfl rfl fun a hk=>nx hK31 ?_
  rcases cond_some H with ⟨c32,H⟩ | ⟨c32,H⟩
  ·have hk:=hk.lit 10 c32 rfl
   refine cnd_true hk rfl rfl <| wp_skip <| hK30 _ _ <| sq fun _ hK33=>wp_block ?_
   apply wp_region_lit
   refine mv hk rfl fun a hk=>mv hk rfl fun a hk=>?_
   obtain ⟨c34,H⟩:=ite_no H
   obtain ⟨b35,q36,hAc34⟩:=(o15.view).some_ u17 c34.1 (by rw [lh16];exact c34.2)
   refine si rfl hk rfl rfl rfl rfl un101 sz5 c34.1 c34.2 hAc34 fun a hk=>?_
   obtain ⟨_,rfl,e37⟩:=(o15.view).at_ 0 u17 c34.1 (by rw [lh16];exact c34.2)
   refine sl (v:=(vI iB (u13.getD u17.toNat 0))) rfl hk rfl rfl rfl ag5 ((e37 0 _ rfl).cell (hs.hasG (k:=1) rfl)) fun a hk=>sv (vI iB (bia1 (u13.getD u17.toNat 0) 15)) hk rfl rfl rfl fun a hk=>?_
   obtain ⟨c38,H⟩:=ite_no H
   obtain ⟨b39,q40,hAc38⟩:=(o15.view).some_ u17 c38.1 (by rw [lh16];exact c38.2)
   refine si rfl hk rfl rfl rfl rfl un101 sz5 c38.1 c38.2 hAc38 fun a hk=>sob 1 (bia1 (u13.getD u17.toNat 0) 15) hs rfl o15 c38.1 (by rw [lh16];exact c38.2) rfl hk rfl rfl rfl rfl rfl sz5 rfl rfl rfl ⟨rfl,rfl⟩ fun k41 w a hk o42 hs=>?_
   have lh43:(u13.set u17.toNat (bia1 (u13.getD u17.toNat 0) 15)).length=(bytesOf (x0.extract 0 (16:Int).toNat)).length:=by rw [List.length_set];exact lh16
   refine nx hK33 ?_
   apply wp_region_lit
   refine mv hk rfl fun a hk=>sv (vI iS (w64 (u17+4))) hk rfl rfl rfl fun a hk=>mv hk rfl fun a hk=>?_
   show wpList _ _ _ [] _ _
   refine wpList_nil ?_
   obtain rfl:=osi H
   obtain ⟨m44,hmm44,h29⟩:=h29
   show ∃ n',n'<_∧I26 n' _ _
   refine ⟨m44,hmm44,?_⟩
   rw [hI26]
   exact ⟨_,_,_,h29,(hk.al rfl),(hs.pick [(1,1)] rfl),o42,lh43⟩
  have hk:=hk.lit 10 c32 rfl
  refine cnd_false hk rfl rfl <| wp_exit ?_
  obtain rfl:=osi H
  show R25 _ _
  rw [hR25]
  exact ⟨_,_,h29.symm,(hk.al rfl),(hs.pick [(1,1)] rfl),o15,lh16⟩
 intro a w hR0
 rw [hR25] at hR0
 obtain ⟨u18,k19,rfl,hk,hs,o20,lh21⟩:=hR0
 have H:=HL24
 try dsimp only at H
 refine hK9 _ _ <| sq fun _ hK45=>sr fun _ hK46=>mv hk rfl fun a hk=>nx hK46 ?_
 obtain ⟨o58,h59,HL60⟩:=bind_some H
 clear H
 obtain ⟨R61,hR61⟩:=nm fun a w=>∃ (u54:List Int) (k55:Chunk),o58 = .out u54∧Kn [(3,(vL (some ⟨b5,0,none⟩) (bytesOf (x0.extract 0 (16:Int).toNat)).length p6))] 31 a∧Sat [] w0 w [] [(1,k55)]∧OwnM (Lay.int iB) 5 (some ⟨b5,0,none⟩) p6 u54 k55∧u54.length=(bytesOf (x0.extract 0 (16:Int).toNat)).length
 refine wp_cutq R61 ?_ ?_
 ·refine wp_block ?_
  obtain ⟨fu63,h59⟩:=loopO_some h59
  obtain ⟨I62,hI62⟩:=nm fun fu a w=>∃ (u49:List Int) (u53:Int) (k50:Chunk),loopN (fun s=>impl_clamped.s1 x0 s.1 s.2) fu (u49,u53)=some o58∧Kn [(3,(vL (some ⟨b5,0,none⟩) (bytesOf (x0.extract 0 (16:Int).toNat)).length p6)),(5,(vI iS u53))] 31 a∧Sat [] w0 w [] [(1,k50)]∧OwnM (Lay.int iB) 5 (some ⟨b5,0,none⟩) p6 u49 k50∧u49.length=(bytesOf (x0.extract 0 (16:Int).toNat)).length
  refine wp_loop_ghost I62 fu63 ?_ ?_
  ·rw [hI62]
   exact ⟨_,_,_,h59,(hk.al rfl),(hs.pick [(1,1)] rfl),o20,lh21⟩
  clear h59 hk hs
  intro fu63 a w hI0
  rw [hI62] at hI0
  obtain ⟨u49,u53,k50,hi,hk,hs,o51,lh52⟩:=hI0
  obtain ⟨x64,H,h65⟩:=loop_round hi
  try dsimp only at H
  unfold impl_clamped.s1 at H
  refine sq fun _ hK66=>sr fun _ hK67=>mv hk rfl fun a hk=>sv (.bool (decide (u53<16))) hk rfl rfl rfl fun a hk=>nx hK67 ?_
  rcases cond_some H with ⟨c68,H⟩ | ⟨c68,H⟩
  ·have hk:=hk.lit 20 c68 rfl
   refine cnd_true hk rfl rfl <| wp_skip <| hK66 _ _ <| sq fun _ hK69=>wp_block ?_
   apply wp_region_lit
   refine mv hk rfl fun a hk=>mv hk rfl fun a hk=>?_
   obtain ⟨c70,H⟩:=ite_no H
   obtain ⟨b71,q72,hAc70⟩:=(o51.view).some_ u53 c70.1 (by rw [lh52];exact c70.2)
   refine si rfl hk rfl rfl rfl rfl un101 sz5 c70.1 c70.2 hAc70 fun a hk=>?_
   obtain ⟨_,rfl,e73⟩:=(o51.view).at_ 0 u53 c70.1 (by rw [lh52];exact c70.2)
   refine sl (v:=(vI iB (u49.getD u53.toNat 0))) rfl hk rfl rfl rfl ag5 ((e73 0 _ rfl).cell (hs.hasG (k:=1) rfl)) fun a hk=>sv (vI iB (bia1 (u49.getD u53.toNat 0) 252)) hk rfl rfl rfl fun a hk=>?_
   obtain ⟨c74,H⟩:=ite_no H
   obtain ⟨b75,q76,hAc74⟩:=(o51.view).some_ u53 c74.1 (by rw [lh52];exact c74.2)
   refine si rfl hk rfl rfl rfl rfl un101 sz5 c74.1 c74.2 hAc74 fun a hk=>sob 1 (bia1 (u49.getD u53.toNat 0) 252) hs rfl o51 c74.1 (by rw [lh52];exact c74.2) rfl hk rfl rfl rfl rfl rfl sz5 rfl rfl rfl ⟨rfl,rfl⟩ fun k77 w a hk o78 hs=>?_
   have lh79:(u49.set u53.toNat (bia1 (u49.getD u53.toNat 0) 252)).length=(bytesOf (x0.extract 0 (16:Int).toNat)).length:=by rw [List.length_set];exact lh52
   refine nx hK69 ?_
   have hs:=hs.pick [(1,1)] rfl
   apply wp_region_lit
   refine mv hk rfl fun a hk=>sv (vI iS (w64 (u53+4))) hk rfl rfl rfl fun a hk=>mv hk rfl fun a hk=>?_
   show wpList _ _ _ [] _ _
   refine wpList_nil ?_
   obtain rfl:=osi H
   obtain ⟨m80,hmm80,h65⟩:=h65
   show ∃ n',n'<_∧I62 n' _ _
   refine ⟨m80,hmm80,?_⟩
   rw [hI62]
   exact ⟨_,_,_,h65,(hk.al rfl),(hs.pick [(1,1)] rfl),o78,lh79⟩
  have hk:=hk.lit 20 c68 rfl
  refine cnd_false hk rfl rfl <| wp_exit ?_
  obtain rfl:=osi H
  show R61 _ _
  rw [hR61]
  exact ⟨_,_,h65.symm,(hk.al rfl),(hs.pick [(1,1)] rfl),o51,lh52⟩
 intro a w hR0
 rw [hR61] at hR0
 obtain ⟨u54,k55,rfl,hk,hs,o56,lh57⟩:=hR0
 have H:=HL60
 try dsimp only at H
 refine hK45 _ _ <| sr fun _ hK81=>mv hk rfl fun a hk=>sbt (xs:=u54) rfl hk rfl rfl lh57.symm rfl un101 un5 un9 o56.view (hs.hasG (k:=1) rfl) fun a hk=>mv hk rfl fun a hk=>nx hK81 <| wp_ret ?_
 obtain rfl:=osi H
 exact fin hk _ [(vS (strOfNums u54))] rfl ⟨rfl,trivial⟩ ⟨rfl,(hs.pick [] rfl).dnil⟩
noncomputable def impl_limbs_carried.s1  (u39:List Int) (u43:Int) (u44:Int):Option (((List Int)×Int×Int) ⊕ Ex ((List Int)×Int) ((List Int))) :=
  (bif (decide (u44<5)) then (if 0≤u44∧u44<(5:Int) then (if 0≤u44∧u44<(5:Int) then (if 0≤u44∧u44<(5:Int) then (if 0≤u44∧u44<(5:Int) then (if 0≤u44∧u44<(5:Int) then (some (.inl (((u39.set u44.toNat (wR .u64 ((u39.getD u44.toNat 0)+u43))).set u44.toNat (wR .u64 ((bO 64 ((u39.set u44.toNat (wR .u64 ((u39.getD u44.toNat 0)+u43))).getD u44.toNat 0) &&& bO 64 67108863).toNat:Int))),(Int.fdiv ((u39.set u44.toNat (wR .u64 ((u39.getD u44.toNat 0)+u43))).getD u44.toNat 0) (2 ^ 26)),(w64 (u44+1))))) else none) else none) else none) else none) else none) else (some (.inr (.out (u39,u43)))))
noncomputable def impl_limbs_carried.s0  (u13:List Int) (u17:Int):Option (((List Int)×Int) ⊕ Ex ((List Int)) ((List Int))) :=
  (bif (decide (u17<3)) then ((loopO (fun s=>impl_limbs_carried.s1  s.1 s.2.1 s.2.2) (u13,0,0)).bind fun o=>match o with | .out (u45,u49)=>(if 0≤(0:Int)∧(0:Int)<(5:Int) then (if 0≤(0:Int)∧(0:Int)<(5:Int) then (some (.inl ((u45.set (0:Int).toNat (wR .u64 ((u45.getD (0:Int).toNat 0)+(wR .u64 (5*u49))))),(w64 (u17+1))))) else none) else none) | .ret r=>(some (.inr (.ret r)))) else (some (.inr (.out u13))))
noncomputable def impl_limbs_carried.f (x0:List Int):Option ((List Int)) :=
  ((loopO (fun s=>impl_limbs_carried.s0  s.1 s.2) (x0,0)).bind fun o=>match o with | .out u18=>(some u18) | .ret r=>(some r))
theorem impl_limbs_carried_t (w0:World) (x0:List Int) (e0_:x0.length=5) (r:(List Int)) (H:impl_limbs_carried.f x0=some r) :
    Calls Tryz.prog 137 #[aggI .u64 x0] w0 (Ret (fun v w=>v=aggI .u64 r∧r.length=5∧Sat [] w0 w [] [])):=by
 have hs:=sat0 w0 [] (by simp)
 unfold impl_limbs_carried.f at H
 refine enter Tryz.func137 rfl Tryz.ntmps137 rfl fun a hk=>sr fun _ hK1=>sbxa 1 hs rfl hk rfl rfl rfl e0_ rfl fun b2 k3 w a hk o4 hs=>sala 2 ((Lay.int .u64)) (m:=5) (z:=0) (zc:=[.int .u64 0]) hs rfl hk rfl rfl ze146 (by exact ⟨rfl,rfl⟩) rfl rfl rfl fun b5 k6 w a hk o7 hs=>?_
 have lh8:(List.replicate 5 (0:Int)).length=5:=List.length_replicate
 refine nx hK1 <| sq fun _ hK9=>sr fun _ hK10=>mv hk rfl fun a hk=>nx hK10 ?_
 obtain ⟨o22,h23,HL24⟩:=bind_some H
 clear H
 obtain ⟨R25,hR25⟩:=nm fun a w=>∃ (u18:List Int) (k19:Chunk),o22 = .out u18∧Kn [(1,(vP (some ⟨b2,0,none⟩))),(2,(vP (some ⟨b5,0,none⟩)))] 34 a∧Sat [] w0 w [] [(1,k19),(2,k6)]∧Own (Lay.int .u64) 146 (some ⟨b2,0,none⟩) 5 u18 k19∧u18.length=5
 refine wp_cutq R25 ?_ ?_
 ·refine wp_block ?_
  obtain ⟨fu27,h23⟩:=loopO_some h23
  obtain ⟨I26,hI26⟩:=nm fun fu a w=>∃ (u13:List Int) (u17:Int) (k14:Chunk),loopN (fun s=>impl_limbs_carried.s0  s.1 s.2) fu (u13,u17)=some o22∧Kn [(1,(vP (some ⟨b2,0,none⟩))),(2,(vP (some ⟨b5,0,none⟩))),(5,(vI iS u17))] 34 a∧Sat [] w0 w [] [(1,k14),(2,k6)]∧Own (Lay.int .u64) 146 (some ⟨b2,0,none⟩) 5 u13 k14∧u13.length=5
  refine wp_loop_ghost I26 fu27 ?_ ?_
  ·rw [hI26]
   exact ⟨_,_,_,h23,(hk.al rfl),(hs.pick [(1,1),(2,2)] rfl),o4,e0_⟩
  clear h23 hk hs
  intro fu27 a w hI0
  rw [hI26] at hI0
  obtain ⟨u13,u17,k14,hi,hk,hs,o15,lh16⟩:=hI0
  obtain ⟨x28,H,h29⟩:=loop_round hi
  try dsimp only at H
  unfold impl_limbs_carried.s0 at H
  refine sr fun _ hK30=>sv (.bool (decide (u17<3))) hk rfl rfl rfl fun a hk=>nx hK30 <| sq fun _ hK31=>?_
  rcases cond_some H with ⟨c32,H⟩ | ⟨c32,H⟩
  ·have hk:=hk.lit 6 c32 rfl
   refine cnd_true hk rfl rfl <| wp_skip <| hK31 _ _ <| sq fun _ hK33=>wp_block ?_
   refine sr fun _ hK34=>mv hk rfl fun a hk=>nx hK34 <| sq fun _ hK35=>sr fun _ hK36=>mv hk rfl fun a hk=>nx hK36 ?_
   obtain ⟨o50,h51,HL52⟩:=bind_some H
   clear H
   obtain ⟨R53,hR53⟩:=nm fun a w=>∃ (u45:List Int) (u49:Int) (k46:Chunk),o50 = .out (u45,u49)∧Kn [(1,(vP (some ⟨b2,0,none⟩))),(2,(vP (some ⟨b5,0,none⟩))),(3,(.int .u64 u49)),(5,(vI iS u17))] 34 a∧Sat [] w0 w [] [(1,k46),(2,k6)]∧Own (Lay.int .u64) 146 (some ⟨b2,0,none⟩) 5 u45 k46∧u45.length=5
   refine wp_cutq R53 ?_ ?_
   ·refine wp_block ?_
    obtain ⟨fu55,h51⟩:=loopO_some h51
    obtain ⟨I54,hI54⟩:=nm fun fu a w=>∃ (u39:List Int) (u43:Int) (u44:Int) (k40:Chunk),loopN (fun s=>impl_limbs_carried.s1  s.1 s.2.1 s.2.2) fu (u39,u43,u44)=some o50∧Kn [(1,(vP (some ⟨b2,0,none⟩))),(2,(vP (some ⟨b5,0,none⟩))),(3,(.int .u64 u43)),(5,(vI iS u17)),(7,(vI iS u44))] 34 a∧Sat [] w0 w [] [(1,k40),(2,k6)]∧Own (Lay.int .u64) 146 (some ⟨b2,0,none⟩) 5 u39 k40∧u39.length=5
    refine wp_loop_ghost I54 fu55 ?_ ?_
    ·rw [hI54]
     exact ⟨_,_,_,_,h51,(hk.al rfl),(hs.pick [(1,1),(2,2)] rfl),o15,lh16⟩
    clear h51 hk hs
    intro fu55 a w hI0
    rw [hI54] at hI0
    obtain ⟨u39,u43,u44,k40,hi,hk,hs,o41,lh42⟩:=hI0
    obtain ⟨x56,H,h57⟩:=loop_round hi
    try dsimp only at H
    unfold impl_limbs_carried.s1 at H
    refine sr fun _ hK58=>sv (.bool (decide (u44<5))) hk rfl rfl rfl fun a hk=>nx hK58 <| sq fun _ hK59=>?_
    rcases cond_some H with ⟨c60,H⟩ | ⟨c60,H⟩
    ·have hk:=hk.lit 8 c60 rfl
     refine cnd_true hk rfl rfl <| wp_skip <| hK59 _ _ ?_
     have hs:=hs.pick [(1,1),(2,2)] rfl
     refine sq fun _ hK61=>wp_block <| sr fun _ hK62=>mv hk rfl fun a hk=>mv hk rfl fun a hk=>nx hK62 <| sr fun _ hK63=>mv hk rfl fun a hk=>?_
     obtain ⟨c64,H⟩:=ite_no H
     obtain ⟨b65,q66,hAc64⟩:=(o41.view).some_ u44 c64.1 (by rw [lh42];exact c64.2)
     refine sia rfl hk rfl rfl rfl rfl un146 sz144 c64.1 c64.2 hAc64 fun a hk=>?_
     obtain ⟨_,rfl,e67⟩:=(o41.view).at_ 0 u44 c64.1 (by rw [lh42];exact c64.2)
     refine sl (v:=(.int .u64 (u39.getD u44.toNat 0))) rfl hk rfl rfl rfl ag144 ((e67 0 _ rfl).cell (hs.hasG (k:=1) rfl)) fun a hk=>mv hk rfl fun a hk=>sv (.int .u64 (wR .u64 ((u39.getD u44.toNat 0)+u43))) hk rfl rfl rfl fun a hk=>?_
     obtain ⟨c68,H⟩:=ite_no H
     obtain ⟨b69,q70,hAc68⟩:=(o41.view).some_ u44 c68.1 (by rw [lh42];exact c68.2)
     refine sia rfl hk rfl rfl rfl rfl un146 sz144 c68.1 c68.2 hAc68 fun a hk=>so (j:=0) 1 0 (wR .u64 ((u39.getD u44.toNat 0)+u43)) hs rfl o41 c68.1 (by rw [lh42];exact c68.2) rfl hk rfl rfl rfl rfl rfl sz144 (by simp [Value.cells,Value.oneCell']) (Nat.le_of_ble_eq_true rfl) (fun _ _ h=>⟨by rw [h.1];rfl,h.2⟩) fun k71 w a hk o72 hs=>?_
     have lh73:(u39.set u44.toNat (wR .u64 ((u39.getD u44.toNat 0)+u43))).length=5:=by rw [List.length_set];exact lh42
     refine nx hK63 <| sr fun _ hK74=>mv hk rfl fun a hk=>?_
     obtain ⟨c75,H⟩:=ite_no H
     obtain ⟨b76,q77,hAc75⟩:=(o72.view).some_ u44 c75.1 (by rw [lh73];exact c75.2)
     refine sia rfl hk rfl rfl rfl rfl un146 sz144 c75.1 c75.2 hAc75 fun a hk=>?_
     obtain ⟨_,rfl,e78⟩:=(o72.view).at_ 0 u44 c75.1 (by rw [lh73];exact c75.2)
     refine sl (v:=(.int .u64 ((u39.set u44.toNat (wR .u64 ((u39.getD u44.toNat 0)+u43))).getD u44.toNat 0))) rfl hk rfl rfl rfl ag144 ((e78 0 _ rfl).cell (hs.hasG (k:=1) rfl)) fun a hk=>sv (.int .u64 (Int.fdiv ((u39.set u44.toNat (wR .u64 ((u39.getD u44.toNat 0)+u43))).getD u44.toNat 0) (2 ^ 26))) hk rfl rfl rfl fun a hk=>mv hk rfl fun a hk=>nx hK74 ?_
     apply wp_region_lit
     refine mv hk rfl fun a hk=>?_
     obtain ⟨c79,H⟩:=ite_no H
     obtain ⟨b80,q81,hAc79⟩:=(o72.view).some_ u44 c79.1 (by rw [lh73];exact c79.2)
     refine sia rfl hk rfl rfl rfl rfl un146 sz144 c79.1 c79.2 hAc79 fun a hk=>?_
     obtain ⟨_,rfl,e82⟩:=(o72.view).at_ 0 u44 c79.1 (by rw [lh73];exact c79.2)
     refine sl (v:=(.int .u64 ((u39.set u44.toNat (wR .u64 ((u39.getD u44.toNat 0)+u43))).getD u44.toNat 0))) rfl hk rfl rfl rfl ag144 ((e82 0 _ rfl).cell (hs.hasG (k:=1) rfl)) fun a hk=>sv (.int .u64 (bia7 ((u39.set u44.toNat (wR .u64 ((u39.getD u44.toNat 0)+u43))).getD u44.toNat 0) 67108863)) hk rfl rfl rfl fun a hk=>?_
     obtain ⟨c83,H⟩:=ite_no H
     obtain ⟨b84,q85,hAc83⟩:=(o72.view).some_ u44 c83.1 (by rw [lh73];exact c83.2)
     refine sia rfl hk rfl rfl rfl rfl un146 sz144 c83.1 c83.2 hAc83 fun a hk=>so (j:=0) 1 0 (bia7 ((u39.set u44.toNat (wR .u64 ((u39.getD u44.toNat 0)+u43))).getD u44.toNat 0) 67108863) hs rfl o72 c83.1 (by rw [lh73];exact c83.2) rfl hk rfl rfl rfl rfl rfl sz144 (by simp [Value.cells,Value.oneCell']) (Nat.le_of_ble_eq_true rfl) (fun _ _ h=>⟨by rw [h.1];rfl,h.2⟩) fun k86 w a hk o87 hs=>?_
     have lh88:((u39.set u44.toNat (wR .u64 ((u39.getD u44.toNat 0)+u43))).set u44.toNat (bia7 ((u39.set u44.toNat (wR .u64 ((u39.getD u44.toNat 0)+u43))).getD u44.toNat 0) 67108863)).length=5:=by rw [List.length_set];exact lh73
     refine nx hK61 ?_
     apply wp_region_lit
     refine sv (vI iS (w64 (u44+1))) hk rfl rfl rfl fun a hk=>mv hk rfl fun a hk=>?_
     show wpList _ _ _ [] _ _
     refine wpList_nil ?_
     obtain rfl:=osi H
     obtain ⟨m89,hmm89,h57⟩:=h57
     show ∃ n',n'<_∧I54 n' _ _
     refine ⟨m89,hmm89,?_⟩
     rw [hI54]
     exact ⟨_,_,_,_,h57,(hk.al rfl),(hs.pick [(1,1),(2,2)] rfl),o87,lh88⟩
    have hk:=hk.lit 8 c60 rfl
    refine cnd_false hk rfl rfl <| wp_exit ?_
    obtain rfl:=osi H
    show R53 _ _
    rw [hR53]
    exact ⟨_,_,_,h57.symm,(hk.al rfl),(hs.pick [(1,1),(2,2)] rfl),o41,lh42⟩
   intro a w hR0
   rw [hR53] at hR0
   obtain ⟨u45,u49,k46,rfl,hk,hs,o47,lh48⟩:=hR0
   have H:=HL52
   try dsimp only at H
   refine hK35 _ _ ?_
   apply wp_region_lit
   obtain ⟨c90,H⟩:=ite_no H
   obtain ⟨b91,q92,hAc90⟩:=(o47.view).some_ (0:Int) c90.1 (by rw [lh48];exact c90.2)
   refine sia rfl hk rfl rfl rfl rfl un146 sz144 c90.1 c90.2 hAc90 fun a hk=>?_
   obtain ⟨_,rfl,e93⟩:=(o47.view).at_ 0 (0:Int) c90.1 (by rw [lh48];exact c90.2)
   refine sl (v:=(.int .u64 (u45.getD (0:Int).toNat 0))) rfl hk rfl rfl rfl ag144 ((e93 0 _ rfl).cell (hs.hasG (k:=1) rfl)) fun a hk=>mv hk rfl fun a hk=>sv (.int .u64 (wR .u64 (5*u49))) hk rfl rfl rfl fun a hk=>sv (.int .u64 (wR .u64 ((u45.getD (0:Int).toNat 0)+(wR .u64 (5*u49))))) hk rfl rfl rfl fun a hk=>?_
   obtain ⟨c94,H⟩:=ite_no H
   obtain ⟨b95,q96,hAc94⟩:=(o47.view).some_ (0:Int) c94.1 (by rw [lh48];exact c94.2)
   refine sia rfl hk rfl rfl rfl rfl un146 sz144 c94.1 c94.2 hAc94 fun a hk=>so (j:=0) 1 0 (wR .u64 ((u45.getD (0:Int).toNat 0)+(wR .u64 (5*u49)))) hs rfl o47 c94.1 (by rw [lh48];exact c94.2) rfl hk rfl rfl rfl rfl rfl sz144 (by simp [Value.cells,Value.oneCell']) (Nat.le_of_ble_eq_true rfl) (fun _ _ h=>⟨by rw [h.1];rfl,h.2⟩) fun k97 w a hk o98 hs=>?_
   have lh99:(u45.set (0:Int).toNat (wR .u64 ((u45.getD (0:Int).toNat 0)+(wR .u64 (5*u49))))).length=5:=by rw [List.length_set];exact lh48
   refine nx hK33 ?_
   have hs:=hs.pick [(1,1),(2,2)] rfl
   apply wp_region_lit
   refine sv (vI iS (w64 (u17+1))) hk rfl rfl rfl fun a hk=>mv hk rfl fun a hk=>?_
   show wpList _ _ _ [] _ _
   refine wpList_nil ?_
   obtain rfl:=osi H
   obtain ⟨m100,hmm100,h29⟩:=h29
   show ∃ n',n'<_∧I26 n' _ _
   refine ⟨m100,hmm100,?_⟩
   rw [hI26]
   exact ⟨_,_,_,h29,(hk.al rfl),(hs.pick [(1,1),(2,2)] rfl),o98,lh99⟩
  have hk:=hk.lit 6 c32 rfl
  refine cnd_false hk rfl rfl <| wp_exit ?_
  obtain rfl:=osi H
  show R25 _ _
  rw [hR25]
  exact ⟨_,_,h29.symm,(hk.al rfl),(hs.pick [(1,1),(2,2)] rfl),o15,lh16⟩
 intro a w hR0
 rw [hR25] at hR0
 obtain ⟨u18,k19,rfl,hk,hs,o20,lh21⟩:=hR0
 have H:=HL24
 try dsimp only at H
 refine hK9 _ _ <| sr fun _ hK101=>slna (k:=1) hs rfl o20 lh21 rfl hk rfl rfl rfl ag146 sz146 fun a hk=>sswa 2 u18 hs rfl o7 lh8 lh21 rfl rfl hk rfl rfl rfl rfl sz146 fun k102 w a hk o103 hs=>nx hK101 <| wp_ret ?_
 obtain rfl:=osi H
 exact fin hk _ [(aggI .u64 u18)] rfl ⟨⟨_,rfl,run_loadA ag146 sz146 o103 lh21 hs (q:=2) rfl⟩,trivial⟩ ⟨rfl,lh21,(hs.pick [] rfl).dnil⟩
noncomputable def impl_limbs_plus.s0 (x1:List Int) (u16:List Int) (u20:Int):Option (((List Int)×Int) ⊕ Ex ((List Int)) ((List Int))) :=
  (bif (decide (u20<5)) then (if 0≤u20∧u20<(5:Int) then (if 0≤u20∧u20<(5:Int) then (if 0≤u20∧u20<(5:Int) then (some (.inl ((u16.set u20.toNat (wR .u64 ((u16.getD u20.toNat 0)+(x1.getD u20.toNat 0)))),(w64 (u20+1))))) else none) else none) else none) else (some (.inr (.out u16))))
noncomputable def impl_limbs_plus.f (x0:List Int) (x1:List Int):Option ((List Int)) :=
  ((loopO (fun s=>impl_limbs_plus.s0 x1 s.1 s.2) (x0,0)).bind fun o=>match o with | .out u21=>((impl_limbs_carried.f u21).bind fun y55=>(some y55)) | .ret r=>(some r))
theorem impl_limbs_plus_t (w0:World) (x0:List Int) (e0_:x0.length=5) (x1:List Int) (e1_:x1.length=5) (r:(List Int)) (H:impl_limbs_plus.f x0 x1=some r) :
    Calls Tryz.prog 120 #[aggI .u64 x0,aggI .u64 x1] w0 (Ret (fun v w=>v=aggI .u64 r∧r.length=5∧Sat [] w0 w [] [])):=by
 have hs:=sat0 w0 [] (by simp)
 unfold impl_limbs_plus.f at H
 refine enter Tryz.func120 rfl Tryz.ntmps120 rfl fun a hk=>sr fun _ hK1=>sbxa 1 hs rfl hk rfl rfl rfl e0_ rfl fun b2 k3 w a hk o4 hs=>sbxa 2 hs rfl hk rfl rfl rfl e1_ rfl fun b5 k6 w a hk o7 hs=>sala 3 ((Lay.int .u64)) (m:=5) (z:=0) (zc:=[.int .u64 0]) hs rfl hk rfl rfl ze146 (by exact ⟨rfl,rfl⟩) rfl rfl rfl fun b8 k9 w a hk o10 hs=>?_
 have lh11:(List.replicate 5 (0:Int)).length=5:=List.length_replicate
 refine nx hK1 <| sq fun _ hK12=>sr fun _ hK13=>mv hk rfl fun a hk=>nx hK13 ?_
 obtain ⟨o25,h26,HL27⟩:=bind_some H
 clear H
 obtain ⟨R28,hR28⟩:=nm fun a w=>∃ (u21:List Int) (k22:Chunk),o25 = .out u21∧Kn [(2,(vP (some ⟨b2,0,none⟩))),(4,(vP (some ⟨b8,0,none⟩)))] 20 a∧Sat [] w0 w [] [(1,k22),(3,k9)]∧Own (Lay.int .u64) 146 (some ⟨b2,0,none⟩) 5 u21 k22∧u21.length=5
 refine wp_cutq R28 ?_ ?_
 ·refine wp_block ?_
  obtain ⟨fu30,h26⟩:=loopO_some h26
  obtain ⟨I29,hI29⟩:=nm fun fu a w=>∃ (u16:List Int) (u20:Int) (k17:Chunk),loopN (fun s=>impl_limbs_plus.s0 x1 s.1 s.2) fu (u16,u20)=some o25∧Kn [(2,(vP (some ⟨b2,0,none⟩))),(3,(vP (some ⟨b5,0,none⟩))),(4,(vP (some ⟨b8,0,none⟩))),(6,(vI iS u20))] 20 a∧Sat [] w0 w [] [(1,k17),(2,k6),(3,k9)]∧Own (Lay.int .u64) 146 (some ⟨b2,0,none⟩) 5 u16 k17∧u16.length=5
  refine wp_loop_ghost I29 fu30 ?_ ?_
  ·rw [hI29]
   exact ⟨_,_,_,h26,(hk.al rfl),(hs.pick [(1,1),(2,2),(3,3)] rfl),o4,e0_⟩
  clear h26 hk hs
  intro fu30 a w hI0
  rw [hI29] at hI0
  obtain ⟨u16,u20,k17,hi,hk,hs,o18,lh19⟩:=hI0
  obtain ⟨x31,H,h32⟩:=loop_round hi
  try dsimp only at H
  unfold impl_limbs_plus.s0 at H
  refine sr fun _ hK33=>sv (.bool (decide (u20<5))) hk rfl rfl rfl fun a hk=>nx hK33 <| sq fun _ hK34=>?_
  rcases cond_some H with ⟨c35,H⟩ | ⟨c35,H⟩
  ·have hk:=hk.lit 7 c35 rfl
   refine cnd_true hk rfl rfl <| wp_skip <| hK34 _ _ <| sq fun _ hK36=>wp_block ?_
   refine sr fun _ hK37=>mv hk rfl fun a hk=>mv hk rfl fun a hk=>nx hK37 <| wp_region_tree (.q 0 (.q 1 (.q 2 (.alt 3 (.alt 4 (.alt 5 (.alt 6 (.alt 7 (.last 8) .stop) .stop) .stop) .stop) .stop)))) mo (by kernel_rfl) (hs.pick [(1,1),(2,2),(3,3)] rfl) fun _=>?_
   have hs:=hs.drew
   refine tqm hk rfl fun a hk=>?_
   obtain ⟨c39,H⟩:=ite_no H
   obtain ⟨b40,q41,hAc39⟩:=(o18.view).some_ u20 c39.1 (by rw [lh19];exact c39.2)
   refine tqst _ hk rfl rfl rfl rfl (fun w hs=>sia rfl hk rfl rfl rfl rfl un146 sz144 c39.1 c39.2 hAc39 fun a hk=>qe hk) fun a hk=>?_
   obtain ⟨_,rfl,e42⟩:=(o18.view).at_ 0 u20 c39.1 (by rw [lh19];exact c39.2)
   refine tqst _ hk rfl rfl rfl rfl (fun w hs=>sl (v:=(.int .u64 (u16.getD u20.toNat 0))) rfl hk rfl rfl rfl ag144 ((e42 0 _ rfl).cell (hs.hasG (k:=1) rfl)) fun a hk=>qe hk) fun a hk=>tss hs hk rfl rfl fun _ hK_r38_3 w hs=>mv hk rfl fun a hk=>se (hs.pick [(1,1),(2,2),(3,3)] rfl) hk (hK_r38_3 _ _ ?_)
   refine tss hs hk rfl rfl fun _ hK_r38_4 w hs=>?_
   obtain ⟨c43,H⟩:=ite_no H
   obtain ⟨b44,q45,hAc43⟩:=(o7.view).some_ u20 c43.1 (by rw [e1_];exact c43.2)
   refine sia rfl hk rfl rfl rfl rfl un146 sz144 c43.1 c43.2 hAc43 fun a hk=>se (hs.pick [(1,1),(2,2),(3,3)] rfl) hk (hK_r38_4 _ _ ?_)
   refine tss hs hk rfl rfl fun _ hK_r38_5 w hs=>?_
   obtain ⟨_,rfl,e46⟩:=(o7.view).at_ 0 u20 c43.1 (by rw [e1_];exact c43.2)
   refine sl (v:=(.int .u64 (x1.getD u20.toNat 0))) rfl hk rfl rfl rfl ag144 ((e46 0 _ rfl).cell (hs.hasG (k:=2) rfl)) fun a hk=>se (hs.pick [(1,1),(2,2),(3,3)] rfl) hk (hK_r38_5 _ _ ?_)
   refine tss hs hk rfl rfl fun _ hK_r38_6 w hs=>sv (.int .u64 (wR .u64 ((u16.getD u20.toNat 0)+(x1.getD u20.toNat 0)))) hk rfl rfl rfl fun a hk=>se (hs.pick [(1,1),(2,2),(3,3)] rfl) hk (hK_r38_6 _ _ ?_)
   refine tss hs hk rfl rfl fun _ hK_r38_7 w hs=>?_
   obtain ⟨c47,H⟩:=ite_no H
   obtain ⟨b48,q49,hAc47⟩:=(o18.view).some_ u20 c47.1 (by rw [lh19];exact c47.2)
   refine sia rfl hk rfl rfl rfl rfl un146 sz144 c47.1 c47.2 hAc47 fun a hk=>se (hs.pick [(1,1),(2,2),(3,3)] rfl) hk (hK_r38_7 _ _ ?_)
   refine tlst hk rfl rfl fun K_r38_8 hK_r38_8 w hF=>?_
   have hs:=hs.f hF
   refine so (j:=0) 1 0 (wR .u64 ((u16.getD u20.toNat 0)+(x1.getD u20.toNat 0))) hs rfl o18 c47.1 (by rw [lh19];exact c47.2) rfl hk rfl rfl rfl rfl rfl sz144 (by simp [Value.cells,Value.oneCell']) (Nat.le_of_ble_eq_true rfl) (fun _ _ h=>⟨by rw [h.1];rfl,h.2⟩) fun k50 w a hk o51 hs=>?_
   have lh52:(u16.set u20.toNat (wR .u64 ((u16.getD u20.toNat 0)+(x1.getD u20.toNat 0)))).length=5:=by rw [List.length_set];exact lh19
   refine se trivial hk (hK_r38_8 _ _ fun w hF=>?_)
   have hs:=hs.f hF
   refine hK36 _ _ ?_
   apply wp_region_lit
   refine sv (vI iS (w64 (u20+1))) hk rfl rfl rfl fun a hk=>mv hk rfl fun a hk=>?_
   show wpList _ _ _ [] _ _
   refine wpList_nil ?_
   obtain rfl:=osi H
   obtain ⟨m53,hmm53,h32⟩:=h32
   show ∃ n',n'<_∧I29 n' _ _
   refine ⟨m53,hmm53,?_⟩
   rw [hI29]
   exact ⟨_,_,_,h32,(hk.al rfl),(hs.pick [(1,1),(2,2),(3,3)] rfl),o51,lh52⟩
  have hk:=hk.lit 7 c35 rfl
  refine cnd_false hk rfl rfl <| wp_exit ?_
  obtain rfl:=osi H
  show R28 _ _
  rw [hR28]
  exact ⟨_,_,h32.symm,(hk.al rfl),(hs.pick [(1,1),(3,3)] rfl),o18,lh19⟩
 intro a w hR0
 rw [hR28] at hR0
 obtain ⟨u21,k22,rfl,hk,hs,o23,lh24⟩:=hR0
 have H:=HL27
 try dsimp only at H
 refine hK12 _ _ <| sr fun _ hK54=>slna (k:=1) hs rfl o23 lh24 rfl hk rfl rfl rfl ag146 sz146 fun a hk=>?_
 obtain ⟨y55,h56,H⟩:=bind_some H
 refine sc rfl en137 hk rfl rfl rfl (impl_limbs_carried_t _ u21 lh24 _ h56) ?_
 rintro _ w ⟨rfl,lh57,hG⟩ a hk
 have hs:=hs.call0 hG
 refine sswa 3 y55 hs rfl o10 lh11 lh57 rfl rfl hk rfl rfl rfl rfl sz146 fun k58 w a hk o59 hs=>nx hK54 <| wp_ret ?_
 obtain rfl:=osi H
 exact fin hk _ [(aggI .u64 y55)] rfl ⟨⟨_,rfl,run_loadA ag146 sz146 o59 lh57 hs (q:=3) rfl⟩,trivial⟩ ⟨rfl,lh57,(hs.pick [] rfl).dnil⟩
noncomputable def impl_limbs_times.s1 (x0:List Int) (x1:List Int) (u25:Int) (u47:List Int) (u51:Int):Option (((List Int)×Int) ⊕ Ex ((List Int)) ((List Int))) :=
  (bif (decide (u51<5)) then (if 0≤u51∧u51<(5:Int) then (((bif (decide ((w64 (u25+u51))<5)) then (if 0≤(w64 (u25+u51))∧(w64 (u25+u51))<(5:Int) then (if 0≤(w64 (u25+u51))∧(w64 (u25+u51))<(5:Int) then (some (u47.set (w64 (u25+u51)).toNat (wR .u64 ((u47.getD (w64 (u25+u51)).toNat 0)+(wR .u64 ((x0.getD u25.toNat 0)*(x1.getD u51.toNat 0))))))) else none) else none) else (if 0≤(w64 ((w64 (u25+u51))-5))∧(w64 ((w64 (u25+u51))-5))<(5:Int) then (if 0≤(w64 ((w64 (u25+u51))-5))∧(w64 ((w64 (u25+u51))-5))<(5:Int) then (some (u47.set (w64 ((w64 (u25+u51))-5)).toNat (wR .u64 ((u47.getD (w64 ((w64 (u25+u51))-5)).toNat 0)+(wR .u64 ((wR .u64 (5*(x0.getD u25.toNat 0)))*(x1.getD u51.toNat 0))))))) else none) else none)):Option ((List Int))).bind fun u72=>(some (.inl (u72,(w64 (u51+1)))))) else none) else (some (.inr (.out u47))))
noncomputable def impl_limbs_times.s0 (x0:List Int) (x1:List Int) (u21:List Int) (u25:Int):Option (((List Int)×Int) ⊕ Ex ((List Int)) ((List Int))) :=
  (bif (decide (u25<5)) then (if 0≤u25∧u25<(5:Int) then ((loopO (fun s=>impl_limbs_times.s1 x0 x1 u25 s.1 s.2) (u21,0)).bind fun o=>match o with | .out u52=>(some (.inl (u52,(w64 (u25+1))))) | .ret r=>(some (.inr (.ret r)))) else none) else (some (.inr (.out u21))))
noncomputable def impl_limbs_times.f (x0:List Int) (x1:List Int):Option ((List Int)) :=
  ((loopO (fun s=>impl_limbs_times.s0 x0 x1 s.1 s.2) ((List.replicate 5 (0:Int)),0)).bind fun o=>match o with | .out u26=>((impl_limbs_carried.f u26).bind fun y104=>(some y104)) | .ret r=>(some r))
theorem impl_limbs_times_t (w0:World) (x0:List Int) (e0_:x0.length=5) (x1:List Int) (e1_:x1.length=5) (r:(List Int)) (H:impl_limbs_times.f x0 x1=some r) :
    Calls Tryz.prog 121 #[aggI .u64 x0,aggI .u64 x1] w0 (Ret (fun v w=>v=aggI .u64 r∧r.length=5∧Sat [] w0 w [] [])):=by
 have hs:=sat0 w0 [] (by simp)
 unfold impl_limbs_times.f at H
 refine enter Tryz.func121 rfl Tryz.ntmps121 rfl fun a hk=>sr fun _ hK1=>sbxa 1 hs rfl hk rfl rfl rfl e0_ rfl fun b2 k3 w a hk o4 hs=>sbxa 2 hs rfl hk rfl rfl rfl e1_ rfl fun b5 k6 w a hk o7 hs=>sala 3 ((Lay.int .u64)) (m:=5) (z:=0) (zc:=[.int .u64 0]) hs rfl hk rfl rfl ze146 (by exact ⟨rfl,rfl⟩) rfl rfl rfl fun b8 k9 w a hk o10 hs=>?_
 have lh11:(List.replicate 5 (0:Int)).length=5:=List.length_replicate
 refine nx hK1 <| sr fun _ hK12=>sala 4 ((Lay.int .u64)) (m:=5) (z:=0) (zc:=[.int .u64 0]) hs rfl hk rfl rfl ze146 (by exact ⟨rfl,rfl⟩) rfl rfl rfl fun b13 k14 w a hk o15 hs=>?_
 have lh16:(List.replicate 5 (0:Int)).length=5:=List.length_replicate
 refine nx hK12 <| sq fun _ hK17=>sr fun _ hK18=>slna (k:=1) hs rfl o4 e0_ rfl hk rfl rfl rfl ag146 sz146 fun a hk=>mv hk rfl fun a hk=>nx hK18 ?_
 obtain ⟨o30,h31,HL32⟩:=bind_some H
 clear H
 obtain ⟨R33,hR33⟩:=nm fun a w=>∃ (u26:List Int) (k27:Chunk),o30 = .out u26∧Kn [(4,(vP (some ⟨b8,0,none⟩))),(5,(vP (some ⟨b13,0,none⟩)))] 50 a∧Sat [] w0 w [] [(3,k9),(4,k27)]∧Own (Lay.int .u64) 146 (some ⟨b13,0,none⟩) 5 u26 k27∧u26.length=5
 refine wp_cutq R33 ?_ ?_
 ·refine wp_block ?_
  obtain ⟨fu35,h31⟩:=loopO_some h31
  obtain ⟨I34,hI34⟩:=nm fun fu a w=>∃ (u21:List Int) (u25:Int) (k22:Chunk),loopN (fun s=>impl_limbs_times.s0 x0 x1 s.1 s.2) fu (u21,u25)=some o30∧Kn [(3,(vP (some ⟨b5,0,none⟩))),(4,(vP (some ⟨b8,0,none⟩))),(5,(vP (some ⟨b13,0,none⟩))),(10,(aggI .u64 x0)),(11,(vI iS u25))] 50 a∧Sat [] w0 w [] [(2,k6),(3,k9),(4,k22)]∧Own (Lay.int .u64) 146 (some ⟨b13,0,none⟩) 5 u21 k22∧u21.length=5
  refine wp_loop_ghost I34 fu35 ?_ ?_
  ·rw [hI34]
   exact ⟨_,_,_,h31,(hk.al rfl),(hs.pick [(2,2),(3,3),(4,4)] rfl),o15,lh16⟩
  clear h31 hk hs
  intro fu35 a w hI0
  rw [hI34] at hI0
  obtain ⟨u21,u25,k22,hi,hk,hs,o23,lh24⟩:=hI0
  obtain ⟨x36,H,h37⟩:=loop_round hi
  try dsimp only at H
  unfold impl_limbs_times.s0 at H
  refine sr fun _ hK38=>sv (.bool (decide (u25<5))) hk rfl rfl rfl fun a hk=>nx hK38 <| sq fun _ hK39=>?_
  rcases cond_some H with ⟨c40,H⟩ | ⟨c40,H⟩
  ·have hk:=hk.lit 12 c40 rfl
   refine cnd_true hk rfl rfl <| wp_skip <| hK39 _ _ <| sq fun _ hK41=>wp_block ?_
   refine sr fun _ hK42=>mv hk rfl fun a hk=>?_
   obtain ⟨c43,H⟩:=ite_no H
   refine sixa rfl hk rfl rfl rfl rfl un146 sz144 ag144 e0_ c43.1 c43.2 fun a hk=>mv hk rfl fun a hk=>mv hk rfl fun a hk=>nx hK42 <| sr fun _ hK44=>slna (k:=2) hs rfl o7 e1_ rfl hk rfl rfl rfl ag146 sz146 fun a hk=>mv hk rfl fun a hk=>nx hK44 ?_
   obtain ⟨o56,h57,HL58⟩:=bind_some H
   clear H
   obtain ⟨R59,hR59⟩:=nm fun a w=>∃ (u52:List Int) (k53:Chunk),o56 = .out u52∧Kn [(3,(vP (some ⟨b5,0,none⟩))),(4,(vP (some ⟨b8,0,none⟩))),(5,(vP (some ⟨b13,0,none⟩))),(10,(aggI .u64 x0)),(11,(vI iS u25))] 50 a∧Sat [] w0 w [] [(2,k6),(3,k9),(4,k53)]∧Own (Lay.int .u64) 146 (some ⟨b13,0,none⟩) 5 u52 k53∧u52.length=5
   refine wp_cutq R59 ?_ ?_
   ·refine wp_block ?_
    obtain ⟨fu61,h57⟩:=loopO_some h57
    obtain ⟨I60,hI60⟩:=nm fun fu a w=>∃ (u47:List Int) (u51:Int) (k48:Chunk),loopN (fun s=>impl_limbs_times.s1 x0 x1 u25 s.1 s.2) fu (u47,u51)=some o56∧Kn [(3,(vP (some ⟨b5,0,none⟩))),(4,(vP (some ⟨b8,0,none⟩))),(5,(vP (some ⟨b13,0,none⟩))),(6,(vI iS u25)),(7,(.int .u64 (x0.getD u25.toNat 0))),(10,(aggI .u64 x0)),(11,(vI iS u25)),(15,(aggI .u64 x1)),(16,(vI iS u51))] 50 a∧Sat [] w0 w [] [(2,k6),(3,k9),(4,k48)]∧Own (Lay.int .u64) 146 (some ⟨b13,0,none⟩) 5 u47 k48∧u47.length=5
    refine wp_loop_ghost I60 fu61 ?_ ?_
    ·rw [hI60]
     exact ⟨_,_,_,h57,(hk.al rfl),(hs.pick [(2,2),(3,3),(4,4)] rfl),o23,lh24⟩
    clear h57 hk hs
    intro fu61 a w hI0
    rw [hI60] at hI0
    obtain ⟨u47,u51,k48,hi,hk,hs,o49,lh50⟩:=hI0
    obtain ⟨x62,H,h63⟩:=loop_round hi
    try dsimp only at H
    unfold impl_limbs_times.s1 at H
    refine sr fun _ hK64=>sv (.bool (decide (u51<5))) hk rfl rfl rfl fun a hk=>nx hK64 ?_
    have hs:=hs.pick [(2,2),(3,3),(4,4)] rfl
    refine sq fun _ hK65=>?_
    rcases cond_some H with ⟨c66,H⟩ | ⟨c66,H⟩
    ·have hk:=hk.lit 17 c66 rfl
     refine cnd_true hk rfl rfl <| wp_skip <| hK65 _ _ <| sq fun _ hK67=>wp_block ?_
     refine sr fun _ hK68=>mv hk rfl fun a hk=>?_
     obtain ⟨c69,H⟩:=ite_no H
     refine sixa rfl hk rfl rfl rfl rfl un146 sz144 ag144 e1_ c69.1 c69.2 fun a hk=>mv hk rfl fun a hk=>mv hk rfl fun a hk=>nx hK68 <| sr fun _ hK70=>mv hk rfl fun a hk=>mv hk rfl fun a hk=>sv (vI iS (w64 (u25+u51))) hk rfl rfl rfl fun a hk=>sv (.bool (decide ((w64 (u25+u51))<5))) hk rfl rfl rfl fun a hk=>nx hK70 ?_
     obtain ⟨o76,h77,HL78⟩:=bind_some H
     clear H
     obtain ⟨R79,hR79⟩:=nm fun a w=>∃ (u72:List Int) (k73:Chunk),u72=o76∧Kn [(3,(vP (some ⟨b5,0,none⟩))),(4,(vP (some ⟨b8,0,none⟩))),(5,(vP (some ⟨b13,0,none⟩))),(6,(vI iS u25)),(7,(.int .u64 (x0.getD u25.toNat 0))),(10,(aggI .u64 x0)),(11,(vI iS u25)),(15,(aggI .u64 x1)),(16,(vI iS u51))] 50 a∧Sat [] w0 w [] [(2,k6),(3,k9),(4,k73)]∧Own (Lay.int .u64) 146 (some ⟨b13,0,none⟩) 5 u72 k73∧u72.length=5
     refine wp_cutq R79 ?_ ?_
     ·have H:=h77
      rcases cond_some H with ⟨c80,H⟩ | ⟨c80,H⟩
      ·have hk:=hk.lit 23 c80 rfl
       refine cnd_true hk rfl rfl ?_
       apply wp_region_lit
       refine mv hk rfl fun a hk=>mv hk rfl fun a hk=>sv (vI iS (w64 (u25+u51))) hk rfl rfl rfl fun a hk=>?_
       obtain ⟨c81,H⟩:=ite_no H
       obtain ⟨b82,q83,hAc81⟩:=(o49.view).some_ (w64 (u25+u51)) c81.1 (by rw [lh50];exact c81.2)
       refine sia rfl hk rfl rfl rfl rfl un146 sz144 c81.1 c81.2 hAc81 fun a hk=>?_
       obtain ⟨_,rfl,e84⟩:=(o49.view).at_ 0 (w64 (u25+u51)) c81.1 (by rw [lh50];exact c81.2)
       refine sl (v:=(.int .u64 (u47.getD (w64 (u25+u51)).toNat 0))) rfl hk rfl rfl rfl ag144 ((e84 0 _ rfl).cell (hs.hasG (k:=4) rfl)) fun a hk=>mv hk rfl fun a hk=>mv hk rfl fun a hk=>sv (.int .u64 (wR .u64 ((x0.getD u25.toNat 0)*(x1.getD u51.toNat 0)))) hk rfl rfl rfl fun a hk=>sv (.int .u64 (wR .u64 ((u47.getD (w64 (u25+u51)).toNat 0)+(wR .u64 ((x0.getD u25.toNat 0)*(x1.getD u51.toNat 0)))))) hk rfl rfl rfl fun a hk=>?_
       obtain ⟨c85,H⟩:=ite_no H
       obtain ⟨b86,q87,hAc85⟩:=(o49.view).some_ (w64 (u25+u51)) c85.1 (by rw [lh50];exact c85.2)
       refine sia rfl hk rfl rfl rfl rfl un146 sz144 c85.1 c85.2 hAc85 fun a hk=>so (j:=0) 4 0 (wR .u64 ((u47.getD (w64 (u25+u51)).toNat 0)+(wR .u64 ((x0.getD u25.toNat 0)*(x1.getD u51.toNat 0))))) hs rfl o49 c85.1 (by rw [lh50];exact c85.2) rfl hk rfl rfl rfl rfl rfl sz144 (by simp [Value.cells,Value.oneCell']) (Nat.le_of_ble_eq_true rfl) (fun _ _ h=>⟨by rw [h.1];rfl,h.2⟩) fun k88 w a hk o89 hs=>?_
       have lh90:(u47.set (w64 (u25+u51)).toNat (wR .u64 ((u47.getD (w64 (u25+u51)).toNat 0)+(wR .u64 ((x0.getD u25.toNat 0)*(x1.getD u51.toNat 0)))))).length=5:=by rw [List.length_set];exact lh50
       show wpList _ _ _ [] _ _
       refine wpList_nil ?_
       obtain rfl:=osi H
       show R79 _ _
       rw [hR79]
       exact ⟨(u47.set (w64 (u25+u51)).toNat (wR .u64 ((u47.getD (w64 (u25+u51)).toNat 0)+(wR .u64 ((x0.getD u25.toNat 0)*(x1.getD u51.toNat 0)))))),_,rfl,(hk.al rfl),(hs.pick [(2,2),(3,3),(4,4)] rfl),o89,lh90⟩
      have hk:=hk.lit 23 c80 rfl
      refine cnd_false hk rfl rfl ?_
      apply wp_region_lit
      refine mv hk rfl fun a hk=>mv hk rfl fun a hk=>sv (vI iS (w64 (u25+u51))) hk rfl rfl rfl fun a hk=>sv (vI iS (w64 ((w64 (u25+u51))-5))) hk rfl rfl rfl fun a hk=>?_
      obtain ⟨c91,H⟩:=ite_no H
      obtain ⟨b92,q93,hAc91⟩:=(o49.view).some_ (w64 ((w64 (u25+u51))-5)) c91.1 (by rw [lh50];exact c91.2)
      refine sia rfl hk rfl rfl rfl rfl un146 sz144 c91.1 c91.2 hAc91 fun a hk=>?_
      obtain ⟨_,rfl,e94⟩:=(o49.view).at_ 0 (w64 ((w64 (u25+u51))-5)) c91.1 (by rw [lh50];exact c91.2)
      refine sl (v:=(.int .u64 (u47.getD (w64 ((w64 (u25+u51))-5)).toNat 0))) rfl hk rfl rfl rfl ag144 ((e94 0 _ rfl).cell (hs.hasG (k:=4) rfl)) fun a hk=>mv hk rfl fun a hk=>sv (.int .u64 (wR .u64 (5*(x0.getD u25.toNat 0)))) hk rfl rfl rfl fun a hk=>mv hk rfl fun a hk=>sv (.int .u64 (wR .u64 ((wR .u64 (5*(x0.getD u25.toNat 0)))*(x1.getD u51.toNat 0)))) hk rfl rfl rfl fun a hk=>sv (.int .u64 (wR .u64 ((u47.getD (w64 ((w64 (u25+u51))-5)).toNat 0)+(wR .u64 ((wR .u64 (5*(x0.getD u25.toNat 0)))*(x1.getD u51.toNat 0)))))) hk rfl rfl rfl fun a hk=>?_
      obtain ⟨c95,H⟩:=ite_no H
      obtain ⟨b96,q97,hAc95⟩:=(o49.view).some_ (w64 ((w64 (u25+u51))-5)) c95.1 (by rw [lh50];exact c95.2)
      refine sia rfl hk rfl rfl rfl rfl un146 sz144 c95.1 c95.2 hAc95 fun a hk=>so (j:=0) 4 0 (wR .u64 ((u47.getD (w64 ((w64 (u25+u51))-5)).toNat 0)+(wR .u64 ((wR .u64 (5*(x0.getD u25.toNat 0)))*(x1.getD u51.toNat 0))))) hs rfl o49 c95.1 (by rw [lh50];exact c95.2) rfl hk rfl rfl rfl rfl rfl sz144 (by simp [Value.cells,Value.oneCell']) (Nat.le_of_ble_eq_true rfl) (fun _ _ h=>⟨by rw [h.1];rfl,h.2⟩) fun k98 w a hk o99 hs=>?_
      have lh100:(u47.set (w64 ((w64 (u25+u51))-5)).toNat (wR .u64 ((u47.getD (w64 ((w64 (u25+u51))-5)).toNat 0)+(wR .u64 ((wR .u64 (5*(x0.getD u25.toNat 0)))*(x1.getD u51.toNat 0)))))).length=5:=by rw [List.length_set];exact lh50
      show wpList _ _ _ [] _ _
      refine wpList_nil ?_
      obtain rfl:=osi H
      show R79 _ _
      rw [hR79]
      exact ⟨(u47.set (w64 ((w64 (u25+u51))-5)).toNat (wR .u64 ((u47.getD (w64 ((w64 (u25+u51))-5)).toNat 0)+(wR .u64 ((wR .u64 (5*(x0.getD u25.toNat 0)))*(x1.getD u51.toNat 0)))))),_,rfl,(hk.al rfl),(hs.pick [(2,2),(3,3),(4,4)] rfl),o99,lh100⟩
     intro a w hR0
     rw [hR79] at hR0
     obtain ⟨u72,k73,rfl,hk,hs,o74,lh75⟩:=hR0
     have H:=HL78
     try dsimp only at H
     refine hK67 _ _ ?_
     apply wp_region_lit
     refine sv (vI iS (w64 (u51+1))) hk rfl rfl rfl fun a hk=>mv hk rfl fun a hk=>?_
     show wpList _ _ _ [] _ _
     refine wpList_nil ?_
     obtain rfl:=osi H
     obtain ⟨m101,hmm101,h63⟩:=h63
     show ∃ n',n'<_∧I60 n' _ _
     refine ⟨m101,hmm101,?_⟩
     rw [hI60]
     exact ⟨_,_,_,h63,(hk.al rfl),(hs.pick [(2,2),(3,3),(4,4)] rfl),o74,lh75⟩
    have hk:=hk.lit 17 c66 rfl
    refine cnd_false hk rfl rfl <| wp_exit ?_
    obtain rfl:=osi H
    show R59 _ _
    rw [hR59]
    exact ⟨_,_,h63.symm,(hk.al rfl),(hs.pick [(2,2),(3,3),(4,4)] rfl),o49,lh50⟩
   intro a w hR0
   rw [hR59] at hR0
   obtain ⟨u52,k53,rfl,hk,hs,o54,lh55⟩:=hR0
   have H:=HL58
   try dsimp only at H
   refine hK41 _ _ ?_
   have hs:=hs.pick [(2,2),(3,3),(4,4)] rfl
   apply wp_region_lit
   refine sv (vI iS (w64 (u25+1))) hk rfl rfl rfl fun a hk=>mv hk rfl fun a hk=>?_
   show wpList _ _ _ [] _ _
   refine wpList_nil ?_
   obtain rfl:=osi H
   obtain ⟨m102,hmm102,h37⟩:=h37
   show ∃ n',n'<_∧I34 n' _ _
   refine ⟨m102,hmm102,?_⟩
   rw [hI34]
   exact ⟨_,_,_,h37,(hk.al rfl),(hs.pick [(2,2),(3,3),(4,4)] rfl),o54,lh55⟩
  have hk:=hk.lit 12 c40 rfl
  refine cnd_false hk rfl rfl <| wp_exit ?_
  obtain rfl:=osi H
  show R33 _ _
  rw [hR33]
  exact ⟨_,_,h37.symm,(hk.al rfl),(hs.pick [(3,3),(4,4)] rfl),o23,lh24⟩
 intro a w hR0
 rw [hR33] at hR0
 obtain ⟨u26,k27,rfl,hk,hs,o28,lh29⟩:=hR0
 have H:=HL32
 try dsimp only at H
 refine hK17 _ _ <| sr fun _ hK103=>slna (k:=4) hs rfl o28 lh29 rfl hk rfl rfl rfl ag146 sz146 fun a hk=>?_
 obtain ⟨y104,h105,H⟩:=bind_some H
 refine sc rfl en137 hk rfl rfl rfl (impl_limbs_carried_t _ u26 lh29 _ h105) ?_
 rintro _ w ⟨rfl,lh106,hG⟩ a hk
 have hs:=hs.call0 hG
 refine sswa 3 y104 hs rfl o10 lh11 lh106 rfl rfl hk rfl rfl rfl rfl sz146 fun k107 w a hk o108 hs=>nx hK103 <| wp_ret ?_
 obtain rfl:=osi H
 exact fin hk _ [(aggI .u64 y104)] rfl ⟨⟨_,rfl,run_loadA ag146 sz146 o108 lh106 hs (q:=3) rfl⟩,trivial⟩ ⟨rfl,lh106,(hs.pick [] rfl).dnil⟩
noncomputable def impl_limbs_reduced.s0 (y10:(List Int)) (u27:Int):Option ((Int) ⊕ Ex (Unit) ((List Int))) :=
  (bif (decide (u27 ≥ 0)) then (if 0≤u27∧u27<(5:Int) then (if 0≤u27∧u27<(5:Int) then (bif ((y10.getD u27.toNat 0) != (([67108859,67108863,67108863,67108863,67108863]:List Int).getD u27.toNat 0)) then (if 0≤u27∧u27<(5:Int) then (if 0≤u27∧u27<(5:Int) then (bif (decide ((y10.getD u27.toNat 0)<(([67108859,67108863,67108863,67108863,67108863]:List Int).getD u27.toNat 0))) then (some (.inr (.ret y10))) else (some (.inr (.out ())))) else none) else none) else (some (.inl (w64 (u27-1))))) else none) else none) else (some (.inr (.out ()))))
noncomputable def impl_limbs_reduced.s1  (u71:List Int) (u75:Int):Option (((List Int)×Int) ⊕ Ex ((List Int)) ((List Int))) :=
  (bif (decide (u75<5)) then (if 0≤u75∧u75<(5:Int) then (if 0≤u75∧u75<(5:Int) then (if 0≤u75∧u75<(5:Int) then (some (.inl ((u71.set u75.toNat (wR .u64 ((u71.getD u75.toNat 0)-(([67108859,67108863,67108863,67108863,67108863]:List Int).getD u75.toNat 0)))),(w64 (u75+1))))) else none) else none) else none) else (some (.inr (.out u71))))
noncomputable def impl_limbs_reduced.f (x0:List Int):Option ((List Int)) :=
  ((impl_limbs_carried.f x0).bind fun y10=>((loopO (fun s=>impl_limbs_reduced.s0 y10 s) 4).bind fun o=>match o with | .out _=>((loopO (fun s=>impl_limbs_reduced.s1  s.1 s.2) (y10,0)).bind fun o=>match o with | .out u76=>(some u76) | .ret r=>(some r)) | .ret r=>(some r)))
theorem impl_limbs_reduced_t (w0:World) (x0:List Int) (e0_:x0.length=5) (r:(List Int)) (H:impl_limbs_reduced.f x0=some r) :
    Calls Tryz.prog 122 #[aggI .u64 x0] w0 (Ret (fun v w=>v=aggI .u64 r∧r.length=5∧Sat [] w0 w [] [])):=by
 have hs:=sat0 w0 [] (by simp)
 unfold impl_limbs_reduced.f at H
 refine enter Tryz.func122 rfl Tryz.ntmps122 rfl fun a hk=>sr fun _ hK1=>sbxa 1 hs rfl hk rfl rfl rfl e0_ rfl fun b2 k3 w a hk o4 hs=>sala 2 ((Lay.int .u64)) (m:=5) (z:=0) (zc:=[.int .u64 0]) hs rfl hk rfl rfl ze146 (by exact ⟨rfl,rfl⟩) rfl rfl rfl fun b5 k6 w a hk o7 hs=>?_
 have lh8:(List.replicate 5 (0:Int)).length=5:=List.length_replicate
 refine nx hK1 <| sr fun _ hK9=>slna (k:=1) hs rfl o4 e0_ rfl hk rfl rfl rfl ag146 sz146 fun a hk=>?_
 obtain ⟨y10,h11,H⟩:=bind_some H
 refine sc rfl en137 hk rfl rfl rfl (impl_limbs_carried_t _ x0 e0_ _ h11) ?_
 rintro _ w ⟨rfl,lh12,hG⟩ a hk
 have hs:=hs.call0 hG
 refine sswa 1 y10 hs rfl o4 e0_ lh12 rfl rfl hk rfl rfl rfl rfl sz146 fun k13 w a hk o14 hs=>nx hK9 <| sr fun _ hK15=>sbd (pv:=[(0,(.int .u64 67108859)),(1,(.int .u64 67108863)),(2,(.int .u64 67108863)),(3,(.int .u64 67108863)),(4,(.int .u64 67108863))]) rfl hk rfl rfl rfl (bd146_27 67108859 67108863 67108863 67108863 67108863) fun a hk=>?_
 have lh16:([67108859,67108863,67108863,67108863,67108863]:List Int).length=5:=rfl
 refine sala 3 ((Lay.int .u64)) (m:=5) (z:=0) (zc:=[.int .u64 0]) hs rfl hk rfl rfl ze146 (by exact ⟨rfl,rfl⟩) rfl rfl rfl fun b17 k18 w a hk o19 hs=>?_
 have lh20:(List.replicate 5 (0:Int)).length=5:=List.length_replicate
 refine sswa 3 ([67108859,67108863,67108863,67108863,67108863]:List Int) hs rfl o19 lh20 lh16 rfl rfl hk rfl rfl rfl rfl sz146 fun k21 w a hk o22 hs=>nx hK15 <| sq fun _ hK23=>sr fun _ hK24=>mv hk rfl fun a hk=>nx hK24 ?_
 obtain ⟨o28,h29,HL30⟩:=bind_some H
 clear H
 obtain ⟨R31,hR31⟩:=nm fun a w=>o28 = .out ()∧Kn [(1,(vP (some ⟨b2,0,none⟩))),(2,(vP (some ⟨b5,0,none⟩))),(3,(vP (some ⟨b17,0,none⟩)))] 41 a∧Sat [] w0 w [] [(1,k13),(2,k6),(3,k21)]
 refine wp_cutq R31 ?_ ?_
 ·refine wp_block ?_
  obtain ⟨fu33,h29⟩:=loopO_some h29
  obtain ⟨I32,hI32⟩:=nm fun fu a w=>∃ (u27:Int),loopN (fun s=>impl_limbs_reduced.s0 y10 s) fu u27=some o28∧Kn [(1,(vP (some ⟨b2,0,none⟩))),(2,(vP (some ⟨b5,0,none⟩))),(3,(vP (some ⟨b17,0,none⟩))),(4,(vI iS u27))] 41 a∧Sat [] w0 w [] [(1,k13),(2,k6),(3,k21)]
  refine wp_loop_ghost I32 fu33 ?_ ?_
  ·rw [hI32]
   exact ⟨_,h29,(hk.al rfl),(hs.pick [(1,1),(2,2),(3,3)] rfl)⟩
  clear h29 hk hs
  intro fu33 a w hI0
  rw [hI32] at hI0
  obtain ⟨u27,hi,hk,hs⟩:=hI0
  obtain ⟨x34,H,h35⟩:=loop_round hi
  try dsimp only at H
  unfold impl_limbs_reduced.s0 at H
  refine sq fun _ hK36=>sr fun _ hK37=>mv hk rfl fun a hk=>sv (.bool (decide (u27 ≥ 0))) hk rfl rfl rfl fun a hk=>nx hK37 ?_
  rcases cond_some H with ⟨c38,H⟩ | ⟨c38,H⟩
  ·have hk:=hk.lit 10 c38 rfl
   refine cnd_true hk rfl rfl <| wp_skip <| hK36 _ _ <| sq fun _ hK39=>wp_block ?_
   refine sq fun _ hK40=>wp_region_tree (.q 0 (.q 1 (.q 2 (.alt 3 (.alt 4 (.alt 5 (.alt 6 .done .stop) .stop) .stop) .stop)))) mo (by kernel_rfl) (hs.pick [(1,1),(2,2),(3,3)] rfl) fun _=>?_
   have hs:=hs.drew
   refine tqm hk rfl fun a hk=>?_
   obtain ⟨c42,H⟩:=ite_no H
   obtain ⟨b43,q44,hAc42⟩:=(o14.view).some_ u27 c42.1 (by rw [lh12];exact c42.2)
   refine tqst _ hk rfl rfl rfl rfl (fun w hs=>sia rfl hk rfl rfl rfl rfl un146 sz144 c42.1 c42.2 hAc42 fun a hk=>qe hk) fun a hk=>?_
   obtain ⟨_,rfl,e45⟩:=(o14.view).at_ 0 u27 c42.1 (by rw [lh12];exact c42.2)
   refine tqst _ hk rfl rfl rfl rfl (fun w hs=>sl (v:=(.int .u64 (y10.getD u27.toNat 0))) rfl hk rfl rfl rfl ag144 ((e45 0 _ rfl).cell (hs.hasG (k:=1) rfl)) fun a hk=>qe hk) fun a hk=>tss hs hk rfl rfl fun _ hK_r41_3 w hs=>mv hk rfl fun a hk=>se (hs.pick [(1,1),(2,2),(3,3)] rfl) hk (hK_r41_3 _ _ ?_)
   refine tss hs hk rfl rfl fun _ hK_r41_4 w hs=>?_
   obtain ⟨c46,H⟩:=ite_no H
   obtain ⟨b47,q48,hAc46⟩:=(o22.view).some_ u27 c46.1 (by rw [lh16];exact c46.2)
   refine sia rfl hk rfl rfl rfl rfl un146 sz144 c46.1 c46.2 hAc46 fun a hk=>se (hs.pick [(1,1),(2,2),(3,3)] rfl) hk (hK_r41_4 _ _ ?_)
   refine tss hs hk rfl rfl fun _ hK_r41_5 w hs=>?_
   obtain ⟨_,rfl,e49⟩:=(o22.view).at_ 0 u27 c46.1 (by rw [lh16];exact c46.2)
   refine sl (v:=(.int .u64 (([67108859,67108863,67108863,67108863,67108863]:List Int).getD u27.toNat 0))) rfl hk rfl rfl rfl ag144 ((e49 0 _ rfl).cell (hs.hasG (k:=3) rfl)) fun a hk=>se (hs.pick [(1,1),(2,2),(3,3)] rfl) hk (hK_r41_5 _ _ ?_)
   refine tss hs hk rfl rfl fun _ hK_r41_6 w hs=>sv (.bool ((y10.getD u27.toNat 0) != (([67108859,67108863,67108863,67108863,67108863]:List Int).getD u27.toNat 0))) hk rfl rfl rfl fun a hk=>se (hs.pick [(1,1),(2,2),(3,3)] rfl) hk (hK_r41_6 _ _ ?_)
   refine wtl_nil fun w hF _=>?_
   have hs:=hs.f hF
   refine hK40 _ _ ?_
   rcases cond_some H with ⟨c50,H⟩ | ⟨c50,H⟩
   ·have hk:=hk.lit 19 c50 rfl
    refine cnd_true hk rfl rfl <| sq fun _ hK51=>sq fun _ hK52=>wp_region_tree (.q 0 (.q 1 (.q 2 (.alt 3 (.alt 4 (.alt 5 (.alt 6 .done .stop) .stop) .stop) .stop)))) mo (by kernel_rfl) (hs.pick [(1,1),(2,2),(3,3)] rfl) fun _=>?_
    have hs:=hs.drew
    refine tqm hk rfl fun a hk=>?_
    obtain ⟨c54,H⟩:=ite_no H
    obtain ⟨b55,q56,hAc54⟩:=(o14.view).some_ u27 c54.1 (by rw [lh12];exact c54.2)
    refine tqst _ hk rfl rfl rfl rfl (fun w hs=>sia rfl hk rfl rfl rfl rfl un146 sz144 c54.1 c54.2 hAc54 fun a hk=>qe hk) fun a hk=>?_
    obtain ⟨_,rfl,e57⟩:=(o14.view).at_ 0 u27 c54.1 (by rw [lh12];exact c54.2)
    refine tqst _ hk rfl rfl rfl rfl (fun w hs=>sl (v:=(.int .u64 (y10.getD u27.toNat 0))) rfl hk rfl rfl rfl ag144 ((e57 0 _ rfl).cell (hs.hasG (k:=1) rfl)) fun a hk=>qe hk) fun a hk=>tss hs hk rfl rfl fun _ hK_r53_3 w hs=>mv hk rfl fun a hk=>se (hs.pick [(1,1),(2,2),(3,3)] rfl) hk (hK_r53_3 _ _ ?_)
    refine tss hs hk rfl rfl fun _ hK_r53_4 w hs=>?_
    obtain ⟨c58,H⟩:=ite_no H
    obtain ⟨b59,q60,hAc58⟩:=(o22.view).some_ u27 c58.1 (by rw [lh16];exact c58.2)
    refine sia rfl hk rfl rfl rfl rfl un146 sz144 c58.1 c58.2 hAc58 fun a hk=>se (hs.pick [(1,1),(2,2),(3,3)] rfl) hk (hK_r53_4 _ _ ?_)
    refine tss hs hk rfl rfl fun _ hK_r53_5 w hs=>?_
    obtain ⟨_,rfl,e61⟩:=(o22.view).at_ 0 u27 c58.1 (by rw [lh16];exact c58.2)
    refine sl (v:=(.int .u64 (([67108859,67108863,67108863,67108863,67108863]:List Int).getD u27.toNat 0))) rfl hk rfl rfl rfl ag144 ((e61 0 _ rfl).cell (hs.hasG (k:=3) rfl)) fun a hk=>se (hs.pick [(1,1),(2,2),(3,3)] rfl) hk (hK_r53_5 _ _ ?_)
    refine tss hs hk rfl rfl fun _ hK_r53_6 w hs=>sv (.bool (decide ((y10.getD u27.toNat 0)<(([67108859,67108863,67108863,67108863,67108863]:List Int).getD u27.toNat 0)))) hk rfl rfl rfl fun a hk=>se (hs.pick [(1,1),(2,2),(3,3)] rfl) hk (hK_r53_6 _ _ ?_)
    refine wtl_nil fun w hF _=>?_
    have hs:=hs.f hF
    refine hK52 _ _ ?_
    have hs:=hs.pick [(1,1),(2,2),(3,3)] rfl
    rcases cond_some H with ⟨c62,H⟩ | ⟨c62,H⟩
    ·have hk:=hk.lit 26 c62 rfl
     refine cnd_true hk rfl rfl <| sr fun _ hK63=>slna (k:=1) hs rfl o14 lh12 rfl hk rfl rfl rfl ag146 sz146 fun a hk=>sswa 2 y10 hs rfl o7 lh8 lh12 rfl rfl hk rfl rfl rfl rfl sz146 fun k64 w a hk o65 hs=>nx hK63 <| wp_ret ?_
     obtain rfl:=osi H
     have ho28:=h35
     try dsimp only at ho28
     subst ho28
     have H:=HL30
     try dsimp only at H
     obtain rfl:=osi H
     exact fin hk _ [(aggI .u64 y10)] rfl ⟨⟨_,rfl,run_loadA ag146 sz146 o65 lh12 hs (q:=2) rfl⟩,trivial⟩ ⟨rfl,lh12,(hs.pick [] rfl).dnil⟩
    have hk:=hk.lit 26 c62 rfl
    refine cnd_false hk rfl rfl <| wp_skip <| hK51 _ _ <| wp_exit ?_
    obtain rfl:=osi H
    show R31 _ _
    rw [hR31]
    exact ⟨h35.symm,(hk.al rfl),(hs.pick [(1,1),(2,2),(3,3)] rfl)⟩
   have hk:=hk.lit 19 c50 rfl
   refine cnd_false hk rfl rfl <| wp_skip <| hK39 _ _ ?_
   have hs:=hs.pick [(1,1),(2,2),(3,3)] rfl
   apply wp_region_lit
   refine mv hk rfl fun a hk=>sv (vI iS (w64 (u27-1))) hk rfl rfl rfl fun a hk=>mv hk rfl fun a hk=>?_
   show wpList _ _ _ [] _ _
   refine wpList_nil ?_
   obtain rfl:=osi H
   obtain ⟨m66,hmm66,h35⟩:=h35
   show ∃ n',n'<_∧I32 n' _ _
   refine ⟨m66,hmm66,?_⟩
   rw [hI32]
   exact ⟨_,h35,(hk.al rfl),(hs.pick [(1,1),(2,2),(3,3)] rfl)⟩
  have hk:=hk.lit 10 c38 rfl
  refine cnd_false hk rfl rfl <| wp_exit ?_
  obtain rfl:=osi H
  show R31 _ _
  rw [hR31]
  exact ⟨h35.symm,(hk.al rfl),(hs.pick [(1,1),(2,2),(3,3)] rfl)⟩
 intro a w hR0
 rw [hR31] at hR0
 obtain ⟨rfl,hk,hs⟩:=hR0
 have H:=HL30
 try dsimp only at H
 refine hK23 _ _ <| sq fun _ hK67=>sr fun _ hK68=>mv hk rfl fun a hk=>nx hK68 ?_
 obtain ⟨o80,h81,HL82⟩:=bind_some H
 clear H
 obtain ⟨R83,hR83⟩:=nm fun a w=>∃ (u76:List Int) (k77:Chunk),o80 = .out u76∧Kn [(1,(vP (some ⟨b2,0,none⟩))),(2,(vP (some ⟨b5,0,none⟩)))] 41 a∧Sat [] w0 w [] [(1,k77),(2,k6)]∧Own (Lay.int .u64) 146 (some ⟨b2,0,none⟩) 5 u76 k77∧u76.length=5
 refine wp_cutq R83 ?_ ?_
 ·refine wp_block ?_
  obtain ⟨fu85,h81⟩:=loopO_some h81
  obtain ⟨I84,hI84⟩:=nm fun fu a w=>∃ (u71:List Int) (u75:Int) (k72:Chunk),loopN (fun s=>impl_limbs_reduced.s1  s.1 s.2) fu (u71,u75)=some o80∧Kn [(1,(vP (some ⟨b2,0,none⟩))),(2,(vP (some ⟨b5,0,none⟩))),(3,(vP (some ⟨b17,0,none⟩))),(28,(vI iS u75))] 41 a∧Sat [] w0 w [] [(1,k72),(2,k6),(3,k21)]∧Own (Lay.int .u64) 146 (some ⟨b2,0,none⟩) 5 u71 k72∧u71.length=5
  refine wp_loop_ghost I84 fu85 ?_ ?_
  ·rw [hI84]
   exact ⟨_,_,_,h81,(hk.al rfl),(hs.pick [(1,1),(2,2),(3,3)] rfl),o14,lh12⟩
  clear h81 hk hs
  intro fu85 a w hI0
  rw [hI84] at hI0
  obtain ⟨u71,u75,k72,hi,hk,hs,o73,lh74⟩:=hI0
  obtain ⟨x86,H,h87⟩:=loop_round hi
  try dsimp only at H
  unfold impl_limbs_reduced.s1 at H
  refine sr fun _ hK88=>sv (.bool (decide (u75<5))) hk rfl rfl rfl fun a hk=>nx hK88 <| sq fun _ hK89=>?_
  rcases cond_some H with ⟨c90,H⟩ | ⟨c90,H⟩
  ·have hk:=hk.lit 29 c90 rfl
   refine cnd_true hk rfl rfl <| wp_skip <| hK89 _ _ ?_
   have hs:=hs.pick [(1,1),(2,2),(3,3)] rfl
   refine sq fun _ hK91=>wp_block <| sr fun _ hK92=>mv hk rfl fun a hk=>mv hk rfl fun a hk=>nx hK92 <| wp_region_tree (.q 0 (.q 1 (.q 2 (.alt 3 (.alt 4 (.alt 5 (.alt 6 (.alt 7 (.last 8) .stop) .stop) .stop) .stop) .stop)))) mo (by kernel_rfl) (hs.pick [(1,1),(2,2),(3,3)] rfl) fun _=>?_
   have hs:=hs.drew
   refine tqm hk rfl fun a hk=>?_
   obtain ⟨c94,H⟩:=ite_no H
   obtain ⟨b95,q96,hAc94⟩:=(o73.view).some_ u75 c94.1 (by rw [lh74];exact c94.2)
   refine tqst _ hk rfl rfl rfl rfl (fun w hs=>sia rfl hk rfl rfl rfl rfl un146 sz144 c94.1 c94.2 hAc94 fun a hk=>qe hk) fun a hk=>?_
   obtain ⟨_,rfl,e97⟩:=(o73.view).at_ 0 u75 c94.1 (by rw [lh74];exact c94.2)
   refine tqst _ hk rfl rfl rfl rfl (fun w hs=>sl (v:=(.int .u64 (u71.getD u75.toNat 0))) rfl hk rfl rfl rfl ag144 ((e97 0 _ rfl).cell (hs.hasG (k:=1) rfl)) fun a hk=>qe hk) fun a hk=>tss hs hk rfl rfl fun _ hK_r93_3 w hs=>mv hk rfl fun a hk=>se (hs.pick [(1,1),(2,2),(3,3)] rfl) hk (hK_r93_3 _ _ ?_)
   refine tss hs hk rfl rfl fun _ hK_r93_4 w hs=>?_
   obtain ⟨c98,H⟩:=ite_no H
   obtain ⟨b99,q100,hAc98⟩:=(o22.view).some_ u75 c98.1 (by rw [lh16];exact c98.2)
   refine sia rfl hk rfl rfl rfl rfl un146 sz144 c98.1 c98.2 hAc98 fun a hk=>se (hs.pick [(1,1),(2,2),(3,3)] rfl) hk (hK_r93_4 _ _ ?_)
   refine tss hs hk rfl rfl fun _ hK_r93_5 w hs=>?_
   obtain ⟨_,rfl,e101⟩:=(o22.view).at_ 0 u75 c98.1 (by rw [lh16];exact c98.2)
   refine sl (v:=(.int .u64 (([67108859,67108863,67108863,67108863,67108863]:List Int).getD u75.toNat 0))) rfl hk rfl rfl rfl ag144 ((e101 0 _ rfl).cell (hs.hasG (k:=3) rfl)) fun a hk=>se (hs.pick [(1,1),(2,2),(3,3)] rfl) hk (hK_r93_5 _ _ ?_)
   refine tss hs hk rfl rfl fun _ hK_r93_6 w hs=>sv (.int .u64 (wR .u64 ((u71.getD u75.toNat 0)-(([67108859,67108863,67108863,67108863,67108863]:List Int).getD u75.toNat 0)))) hk rfl rfl rfl fun a hk=>se (hs.pick [(1,1),(2,2),(3,3)] rfl) hk (hK_r93_6 _ _ ?_)
   refine tss hs hk rfl rfl fun _ hK_r93_7 w hs=>?_
   obtain ⟨c102,H⟩:=ite_no H
   obtain ⟨b103,q104,hAc102⟩:=(o73.view).some_ u75 c102.1 (by rw [lh74];exact c102.2)
   refine sia rfl hk rfl rfl rfl rfl un146 sz144 c102.1 c102.2 hAc102 fun a hk=>se (hs.pick [(1,1),(2,2),(3,3)] rfl) hk (hK_r93_7 _ _ ?_)
   refine tlst hk rfl rfl fun K_r93_8 hK_r93_8 w hF=>?_
   have hs:=hs.f hF
   refine so (j:=0) 1 0 (wR .u64 ((u71.getD u75.toNat 0)-(([67108859,67108863,67108863,67108863,67108863]:List Int).getD u75.toNat 0))) hs rfl o73 c102.1 (by rw [lh74];exact c102.2) rfl hk rfl rfl rfl rfl rfl sz144 (by simp [Value.cells,Value.oneCell']) (Nat.le_of_ble_eq_true rfl) (fun _ _ h=>⟨by rw [h.1];rfl,h.2⟩) fun k105 w a hk o106 hs=>?_
   have lh107:(u71.set u75.toNat (wR .u64 ((u71.getD u75.toNat 0)-(([67108859,67108863,67108863,67108863,67108863]:List Int).getD u75.toNat 0)))).length=5:=by rw [List.length_set];exact lh74
   refine se trivial hk (hK_r93_8 _ _ fun w hF=>?_)
   have hs:=hs.f hF
   refine hK91 _ _ ?_
   apply wp_region_lit
   refine sv (vI iS (w64 (u75+1))) hk rfl rfl rfl fun a hk=>mv hk rfl fun a hk=>?_
   show wpList _ _ _ [] _ _
   refine wpList_nil ?_
   obtain rfl:=osi H
   obtain ⟨m108,hmm108,h87⟩:=h87
   show ∃ n',n'<_∧I84 n' _ _
   refine ⟨m108,hmm108,?_⟩
   rw [hI84]
   exact ⟨_,_,_,h87,(hk.al rfl),(hs.pick [(1,1),(2,2),(3,3)] rfl),o106,lh107⟩
  have hk:=hk.lit 29 c90 rfl
  refine cnd_false hk rfl rfl <| wp_exit ?_
  obtain rfl:=osi H
  show R83 _ _
  rw [hR83]
  exact ⟨_,_,h87.symm,(hk.al rfl),(hs.pick [(1,1),(2,2)] rfl),o73,lh74⟩
 intro a w hR0
 rw [hR83] at hR0
 obtain ⟨u76,k77,rfl,hk,hs,o78,lh79⟩:=hR0
 have H:=HL82
 try dsimp only at H
 refine hK67 _ _ <| sr fun _ hK109=>slna (k:=1) hs rfl o78 lh79 rfl hk rfl rfl rfl ag146 sz146 fun a hk=>sswa 2 u76 hs rfl o7 lh8 lh79 rfl rfl hk rfl rfl rfl rfl sz146 fun k110 w a hk o111 hs=>nx hK109 ?_
 have hs:=hs.pick [(2,2)] rfl
 refine wp_ret ?_
 obtain rfl:=osi H
 exact fin hk _ [(aggI .u64 u76)] rfl ⟨⟨_,rfl,run_loadA ag146 sz146 o111 lh79 hs (q:=2) rfl⟩,trivial⟩ ⟨rfl,lh79,(hs.pick [] rfl).dnil⟩
noncomputable def impl_limbs_bytes.s1 (x0:List Int) (u21:Int) (u44:Int) (u45:Int):Option ((Int×Int) ⊕ Ex (Int) (ByteArray)) :=
  (bif (decide (u45<8)) then (if 0≤(wR iS (Int.tdiv (w64 ((w64 (8*u21))+u45)) 26))∧(wR iS (Int.tdiv (w64 ((w64 (8*u21))+u45)) 26))<(5:Int) then (if 0≤(Int.tmod (w64 ((w64 (8*u21))+u45)) 26) then (if 0≤u45 then (some (.inl ((wR iS ((bO 64 u44 ||| bO 64 (wR iS ((wR iS (wR .u64 ((bO 64 (Int.fdiv (x0.getD (wR iS (Int.tdiv (w64 ((w64 (8*u21))+u45)) 26)).toNat 0) (2 ^ min (Int.tmod (w64 ((w64 (8*u21))+u45)) 26).toNat 64)) &&& bO 64 1).toNat:Int)))*2 ^ min u45.toNat 64))).toNat:Int)),(w64 (u45+1))))) else none) else none) else none) else (some (.inr (.out u44))))
noncomputable def impl_limbs_bytes.s0 (x0:List Int) (x1:ByteArray) (u16:List Int) (u20:Int) (u21:Int):Option (((List Int)×Int×Int) ⊕ Ex ((List Int)) (ByteArray)) :=
  (bif (decide (u21<((((16:Int)).toNat):Int))) then ((loopO (fun s=>impl_limbs_bytes.s1 x0 u21 s.1 s.2) (0,0)).bind fun o=>match o with | .out u46=>(if 0≤u21∧u21<(x1.size:Int) then (if 0≤u21∧u21<((((16:Int)).toNat):Int) then (some (.inl ((u16.set u21.toNat (wR iB (w64 (u20+(w64 (u46+(wR iS (byteAt x1 u21)))))))),(Int.fdiv (w64 (u20+(w64 (u46+(wR iS (byteAt x1 u21)))))) (2 ^ 8)),(w64 (u21+1))))) else none) else none) | .ret r=>(some (.inr (.ret r)))) else (some (.inr (.out u16))))
noncomputable def impl_limbs_bytes.f (x0:List Int) (x1:ByteArray):Option (ByteArray) :=
  (if 0≤(16:Int)∧(16:Int)≤1073741824 then ((loopO (fun s=>impl_limbs_bytes.s0 x0 x1 s.1 s.2.1 s.2.2) ((List.replicate ((16:Int)).toNat (0:Int)),0,0)).bind fun o=>match o with | .out u22=>(some (strOfNums u22)) | .ret r=>(some r)) else none)
theorem impl_limbs_bytes_t (w0:World) (x0:List Int) (e0_:x0.length=5) (x1:ByteArray) (r:ByteArray) (H:impl_limbs_bytes.f x0 x1=some r) :
    Calls Tryz.prog 123 #[aggI .u64 x0,vS x1] w0 (Ret (fun v w=>v=vS r∧Sat [] w0 w [] [])):=by
 have hs:=sat0 w0 [] (by simp)
 unfold impl_limbs_bytes.f at H
 refine enter Tryz.func123 rfl Tryz.ntmps123 rfl fun a hk=>sr fun _ hK1=>sbxa 1 hs rfl hk rfl rfl rfl e0_ rfl fun b2 k3 w a hk o4 hs=>mv hk rfl fun a hk=>nx hK1 <| sr fun _ hK5=>?_
 obtain ⟨c6,H⟩:=ite_no H
 refine smk 2 (Lay.int iB) hs rfl hk rfl rfl rfl rfl un101 mk5 lz5 rfl rfl c6.1 c6.2 fun b7 k8 w a hk o9 hs=>?_
 have lh10:(List.replicate ((16:Int)).toNat (0:Int)).length=((16:Int)).toNat:=List.length_replicate
 refine mv hk rfl fun a hk=>nx hK5 <| sr fun _ hK11=>mv hk rfl fun a hk=>nx hK11 <| sq fun _ hK12=>sr fun _ hK13=>mv hk rfl fun a hk=>sle rfl hk rfl rfl rfl un101 fun a hk=>mv hk rfl fun a hk=>nx hK13 ?_
 obtain ⟨o26,h27,HL28⟩:=bind_some H
 clear H
 obtain ⟨R29,hR29⟩:=nm fun a w=>∃ (u22:List Int) (k23:Chunk),o26 = .out u22∧Kn [(5,(vL (some ⟨b7,0,none⟩) (((16:Int)).toNat) (((16:Int)).toNat)))] 56 a∧Sat [] w0 w [] [(2,k23)]∧Own (Lay.int iB) 5 (some ⟨b7,0,none⟩) (((16:Int)).toNat) u22 k23∧u22.length=(((16:Int)).toNat)
 refine wp_cutq R29 ?_ ?_
 ·refine wp_block ?_
  obtain ⟨fu31,h27⟩:=loopO_some h27
  obtain ⟨I30,hI30⟩:=nm fun fu a w=>∃ (u16:List Int) (u20:Int) (u21:Int) (k17:Chunk),loopN (fun s=>impl_limbs_bytes.s0 x0 x1 s.1 s.2.1 s.2.2) fu (u16,u20,u21)=some o26∧Kn [(1,(vS x1)),(2,(vP (some ⟨b2,0,none⟩))),(5,(vL (some ⟨b7,0,none⟩) (((16:Int)).toNat) (((16:Int)).toNat))),(6,(vI iS u20)),(13,(vI iS ((((16:Int)).toNat):Int))),(14,(vI iS u21))] 56 a∧Sat [] w0 w [] [(1,k3),(2,k17)]∧Own (Lay.int iB) 5 (some ⟨b7,0,none⟩) (((16:Int)).toNat) u16 k17∧u16.length=(((16:Int)).toNat)
  refine wp_loop_ghost I30 fu31 ?_ ?_
  ·rw [hI30]
   exact ⟨_,_,_,_,h27,(hk.al rfl),(hs.pick [(1,1),(2,2)] rfl),o9,lh10⟩
  clear h27 hk hs
  intro fu31 a w hI0
  rw [hI30] at hI0
  obtain ⟨u16,u20,u21,k17,hi,hk,hs,o18,lh19⟩:=hI0
  obtain ⟨x32,H,h33⟩:=loop_round hi
  try dsimp only at H
  unfold impl_limbs_bytes.s0 at H
  refine sr fun _ hK34=>sv (.bool (decide (u21<((((16:Int)).toNat):Int)))) hk rfl rfl rfl fun a hk=>nx hK34 <| sq fun _ hK35=>?_
  rcases cond_some H with ⟨c36,H⟩ | ⟨c36,H⟩
  ·have hk:=hk.lit 15 c36 rfl
   refine cnd_true hk rfl rfl <| wp_skip <| hK35 _ _ <| sq fun _ hK37=>wp_block ?_
   refine sr fun _ hK38=>mv hk rfl fun a hk=>mv hk rfl fun a hk=>nx hK38 <| sr fun _ hK39=>mv hk rfl fun a hk=>nx hK39 ?_
   have hs:=hs.pick [(1,1),(2,2)] rfl
   refine sq fun _ hK40=>sr fun _ hK41=>mv hk rfl fun a hk=>nx hK41 ?_
   obtain ⟨o47,h48,HL49⟩:=bind_some H
   clear H
   obtain ⟨R50,hR50⟩:=nm fun a w=>∃ (u46:Int),o47 = .out u46∧Kn [(1,(vS x1)),(2,(vP (some ⟨b2,0,none⟩))),(5,(vL (some ⟨b7,0,none⟩) (((16:Int)).toNat) (((16:Int)).toNat))),(6,(vI iS u20)),(7,(vI iS u21)),(8,(vI iS u46)),(13,(vI iS ((((16:Int)).toNat):Int))),(14,(vI iS u21))] 56 a∧Sat [] w0 w [] [(1,k3),(2,k17)]
   refine wp_cutq R50 ?_ ?_
   ·refine wp_block ?_
    obtain ⟨fu52,h48⟩:=loopO_some h48
    obtain ⟨I51,hI51⟩:=nm fun fu a w=>∃ (u44:Int) (u45:Int),loopN (fun s=>impl_limbs_bytes.s1 x0 u21 s.1 s.2) fu (u44,u45)=some o47∧Kn [(1,(vS x1)),(2,(vP (some ⟨b2,0,none⟩))),(5,(vL (some ⟨b7,0,none⟩) (((16:Int)).toNat) (((16:Int)).toNat))),(6,(vI iS u20)),(7,(vI iS u21)),(8,(vI iS u44)),(13,(vI iS ((((16:Int)).toNat):Int))),(14,(vI iS u21)),(17,(vI iS u45))] 56 a∧Sat [] w0 w [] [(1,k3),(2,k17)]
    refine wp_loop_ghost I51 fu52 ?_ ?_
    ·rw [hI51]
     exact ⟨_,_,h48,(hk.al rfl),(hs.pick [(1,1),(2,2)] rfl)⟩
    clear h48 hk hs
    intro fu52 a w hI0
    rw [hI51] at hI0
    obtain ⟨u44,u45,hi,hk,hs⟩:=hI0
    obtain ⟨x53,H,h54⟩:=loop_round hi
    try dsimp only at H
    unfold impl_limbs_bytes.s1 at H
    refine sr fun _ hK55=>sv (.bool (decide (u45<8))) hk rfl rfl rfl fun a hk=>nx hK55 <| sq fun _ hK56=>?_
    rcases cond_some H with ⟨c57,H⟩ | ⟨c57,H⟩
    ·have hk:=hk.lit 18 c57 rfl
     refine cnd_true hk rfl rfl <| wp_skip <| hK56 _ _ <| sq fun _ hK58=>wp_block ?_
     refine sr fun _ hK59=>mv hk rfl fun a hk=>mv hk rfl fun a hk=>nx hK59 <| sr fun _ hK60=>mv hk rfl fun a hk=>sv (vI iS (w64 (8*u21))) hk rfl rfl rfl fun a hk=>mv hk rfl fun a hk=>sv (vI iS (w64 ((w64 (8*u21))+u45))) hk rfl rfl rfl fun a hk=>mv hk rfl fun a hk=>nx hK60 ?_
     apply wp_region_lit
     refine mv hk rfl fun a hk=>mv hk rfl fun a hk=>sv (vI iS (wR iS (Int.tdiv (w64 ((w64 (8*u21))+u45)) 26))) hk rfl rfl rfl fun a hk=>?_
     obtain ⟨c61,H⟩:=ite_no H
     obtain ⟨b62,q63,hAc61⟩:=(o4.view).some_ (wR iS (Int.tdiv (w64 ((w64 (8*u21))+u45)) 26)) c61.1 (by rw [e0_];exact c61.2)
     refine sia rfl hk rfl rfl rfl rfl un146 sz144 c61.1 c61.2 hAc61 fun a hk=>?_
     obtain ⟨_,rfl,e64⟩:=(o4.view).at_ 0 (wR iS (Int.tdiv (w64 ((w64 (8*u21))+u45)) 26)) c61.1 (by rw [e0_];exact c61.2)
     refine sl (v:=(.int .u64 (x0.getD (wR iS (Int.tdiv (w64 ((w64 (8*u21))+u45)) 26)).toNat 0))) rfl hk rfl rfl rfl ag144 ((e64 0 _ rfl).cell (hs.hasG (k:=1) rfl)) fun a hk=>mv hk rfl fun a hk=>sv (vI iS (Int.tmod (w64 ((w64 (8*u21))+u45)) 26)) hk rfl rfl rfl fun a hk=>?_
     obtain ⟨c65,H⟩:=ite_no H
     refine ssr rfl hk rfl rfl rfl rfl c65 fun a hk=>sv (.int .u64 (bia7 (Int.fdiv (x0.getD (wR iS (Int.tdiv (w64 ((w64 (8*u21))+u45)) 26)).toNat 0) (2 ^ min (Int.tmod (w64 ((w64 (8*u21))+u45)) 26).toNat 64)) 1)) hk rfl rfl rfl fun a hk=>scn rfl hk rfl rfl rfl un3 un144 fun a hk=>mv hk rfl fun a hk=>?_
     obtain ⟨c66,H⟩:=ite_no H
     refine ssh rfl hk rfl rfl rfl rfl c66 fun a hk=>sv (vI iS (bio6 u44 (wR iS ((wR iS (bia7 (Int.fdiv (x0.getD (wR iS (Int.tdiv (w64 ((w64 (8*u21))+u45)) 26)).toNat 0) (2 ^ min (Int.tmod (w64 ((w64 (8*u21))+u45)) 26).toNat 64)) 1))*2 ^ min u45.toNat 64)))) hk rfl rfl rfl fun a hk=>mv hk rfl fun a hk=>nx hK58 ?_
     apply wp_region_lit
     refine sv (vI iS (w64 (u45+1))) hk rfl rfl rfl fun a hk=>mv hk rfl fun a hk=>?_
     show wpList _ _ _ [] _ _
     refine wpList_nil ?_
     obtain rfl:=osi H
     obtain ⟨m67,hmm67,h54⟩:=h54
     show ∃ n',n'<_∧I51 n' _ _
     refine ⟨m67,hmm67,?_⟩
     rw [hI51]
     exact ⟨_,_,h54,(hk.al rfl),(hs.pick [(1,1),(2,2)] rfl)⟩
    have hk:=hk.lit 18 c57 rfl
    refine cnd_false hk rfl rfl <| wp_exit ?_
    obtain rfl:=osi H
    show R50 _ _
    rw [hR50]
    exact ⟨_,h54.symm,(hk.al rfl),(hs.pick [(1,1),(2,2)] rfl)⟩
   intro a w hR0
   rw [hR50] at hR0
   obtain ⟨u46,rfl,hk,hs⟩:=hR0
   have H:=HL49
   try dsimp only at H
   refine hK40 _ _ <| sr fun _ hK68=>mv hk rfl fun a hk=>mv hk rfl fun a hk=>mv hk rfl fun a hk=>mv hk rfl fun a hk=>?_
   obtain ⟨c69,H⟩:=ite_no H
   refine six rfl hk rfl rfl rfl rfl un9 c69.1 c69.2 fun a hk=>scn rfl hk rfl rfl rfl un3 un5 fun a hk=>sv (vI iS (w64 (u46+(wR iS (byteAt x1 u21))))) hk rfl rfl rfl fun a hk=>sv (vI iS (w64 (u20+(w64 (u46+(wR iS (byteAt x1 u21))))))) hk rfl rfl rfl fun a hk=>mv hk rfl fun a hk=>nx hK68 <| sr fun _ hK70=>mv hk rfl fun a hk=>mv hk rfl fun a hk=>mv hk rfl fun a hk=>scn rfl hk rfl rfl rfl un5 un3 fun a hk=>?_
   obtain ⟨c71,H⟩:=ite_no H
   obtain ⟨b72,q73,hAc71⟩:=(o18.view).some_ u21 c71.1 (by rw [lh19];exact c71.2)
   refine si rfl hk rfl rfl rfl rfl un101 sz5 c71.1 c71.2 hAc71 fun a hk=>so (j:=0) 2 0 (wR iB (w64 (u20+(w64 (u46+(wR iS (byteAt x1 u21))))))) hs rfl o18 c71.1 (by rw [lh19];exact c71.2) rfl hk rfl rfl rfl rfl rfl sz5 (by simp [Value.cells,Value.oneCell']) (Nat.le_of_ble_eq_true rfl) (fun _ _ h=>⟨by rw [h.1];rfl,h.2⟩) fun k74 w a hk o75 hs=>?_
   have lh76:(u16.set u21.toNat (wR iB (w64 (u20+(w64 (u46+(wR iS (byteAt x1 u21)))))))).length=(((16:Int)).toNat):=by rw [List.length_set];exact lh19
   refine nx hK70 ?_
   apply wp_region_lit
   refine mv hk rfl fun a hk=>sv (vI iS (Int.fdiv (w64 (u20+(w64 (u46+(wR iS (byteAt x1 u21)))))) (2 ^ 8))) hk rfl rfl rfl fun a hk=>mv hk rfl fun a hk=>nx hK37 ?_
   apply wp_region_lit
   refine sv (vI iS (w64 (u21+1))) hk rfl rfl rfl fun a hk=>mv hk rfl fun a hk=>?_
   show wpList _ _ _ [] _ _
   refine wpList_nil ?_
   obtain rfl:=osi H
   obtain ⟨m77,hmm77,h33⟩:=h33
   show ∃ n',n'<_∧I30 n' _ _
   refine ⟨m77,hmm77,?_⟩
   rw [hI30]
   exact ⟨_,_,_,_,h33,(hk.al rfl),(hs.pick [(1,1),(2,2)] rfl),o75,lh76⟩
  have hk:=hk.lit 15 c36 rfl
  refine cnd_false hk rfl rfl <| wp_exit ?_
  obtain rfl:=osi H
  show R29 _ _
  rw [hR29]
  exact ⟨_,_,h33.symm,(hk.al rfl),(hs.pick [(2,2)] rfl),o18,lh19⟩
 intro a w hR0
 rw [hR29] at hR0
 obtain ⟨u22,k23,rfl,hk,hs,o24,lh25⟩:=hR0
 have H:=HL28
 try dsimp only at H
 refine hK12 _ _ <| sr fun _ hK78=>mv hk rfl fun a hk=>sbt (xs:=u22) rfl hk rfl rfl lh25.symm rfl un101 un5 un9 o24.view (hs.hasG (k:=2) rfl) fun a hk=>mv hk rfl fun a hk=>nx hK78 <| wp_ret ?_
 obtain rfl:=osi H
 exact fin hk _ [(vS (strOfNums u22))] rfl ⟨rfl,trivial⟩ ⟨rfl,(hs.pick [] rfl).dnil⟩
noncomputable def impl_tag.s0 (x1:ByteArray) (y10:(List Int)) (u23:List Int) (u27:Int):Option (((List Int)×Int) ⊕ Ex ((List Int)) (ByteArray)) :=
  (bif (decide (u27<(x1.size:Int))) then (if 0≤u27∧u27≤(if (x1.size:Int)<(w64 (u27+16)) then (x1.size:Int) else (w64 (u27+16)))∧(if (x1.size:Int)<(w64 (u27+16)) then (x1.size:Int) else (w64 (u27+16)))≤(x1.size:Int) then (if (x1.extract u27.toNat (if (x1.size:Int)<(w64 (u27+16)) then (x1.size:Int) else (w64 (u27+16))).toNat).size+(⟨#[1]⟩:ByteArray).size≤1152921504606846976 then ((impl_limbsOf.f ((x1.extract u27.toNat (if (x1.size:Int)<(w64 (u27+16)) then (x1.size:Int) else (w64 (u27+16))).toNat)++(⟨#[1]⟩:ByteArray))).bind fun y47=>((impl_limbs_plus.f u23 y47).bind fun y50=>((impl_limbs_times.f y50 y10).bind fun y53=>(some (.inl (y53,(w64 (u27+16)))))))) else none) else none) else (some (.inr (.out u23))))
noncomputable def impl_tag.f (x0:ByteArray) (x1:ByteArray):Option (ByteArray) :=
  ((impl_clamped.f x0).bind fun y8=>((impl_limbsOf.f y8).bind fun y10=>((loopO (fun s=>impl_tag.s0 x1 y10 s.1 s.2) ((List.replicate 5 (0:Int)),0)).bind fun o=>match o with | .out u28=>(if 0≤(16:Int)∧(16:Int)≤(x0.size:Int) then ((impl_limbs_reduced.f u28).bind fun y62=>((impl_limbs_bytes.f y62 (x0.extract (16:Int).toNat x0.size)).bind fun y65=>(some y65))) else none) | .ret r=>(some r))))
theorem impl_tag_t (w0:World) (x0:ByteArray) (x1:ByteArray) (r:ByteArray) (H:impl_tag.f x0 x1=some r) :
    Calls Tryz.prog 103 #[vS x0,vS x1] w0 (Ret (fun v w=>v=vS r∧Sat [] w0 w [] [])):=by
 have hs:=sat0 w0 [] (by simp)
 unfold impl_tag.f at H
 refine enter Tryz.func103 rfl Tryz.ntmps103 rfl fun a hk=>sr fun _ hK1=>mv hk rfl fun a hk=>nx hK1 <| sr fun _ hK2=>sala 1 ((Lay.int .u64)) (m:=5) (z:=0) (zc:=[.int .u64 0]) hs rfl hk rfl rfl ze146 (by exact ⟨rfl,rfl⟩) rfl rfl rfl fun b3 k4 w a hk o5 hs=>?_
 have lh6:(List.replicate 5 (0:Int)).length=5:=List.length_replicate
 refine nx hK2 <| sr fun _ hK7=>mv hk rfl fun a hk=>?_
 obtain ⟨y8,h9,H⟩:=bind_some H
 refine sc rfl en119 hk rfl rfl rfl (impl_clamped_t _ x0 _ h9) ?_
 rintro _ w ⟨rfl,hG⟩ a hk
 have hs:=hs.call0 hG
 obtain ⟨y10,h11,H⟩:=bind_some H
 refine sc rfl en118 hk rfl rfl rfl (impl_limbsOf_t _ y8 _ h11) ?_
 rintro _ w ⟨rfl,lh12,hG⟩ a hk
 have hs:=hs.call0 hG
 refine sala 2 ((Lay.int .u64)) (m:=5) (z:=0) (zc:=[.int .u64 0]) hs rfl hk rfl rfl ze146 (by exact ⟨rfl,rfl⟩) rfl rfl rfl fun b13 k14 w a hk o15 hs=>?_
 have lh16:(List.replicate 5 (0:Int)).length=5:=List.length_replicate
 refine sswa 2 y10 hs rfl o15 lh16 lh12 rfl rfl hk rfl rfl rfl rfl sz146 fun k17 w a hk o18 hs=>nx hK7 <| sq fun _ hK19=>sr fun _ hK20=>mv hk rfl fun a hk=>nx hK20 ?_
 obtain ⟨o32,h33,HL34⟩:=bind_some H
 clear H
 obtain ⟨R35,hR35⟩:=nm fun a w=>∃ (u28:List Int) (k29:Chunk),o32 = .out u28∧Kn [(0,(vS x0)),(5,(vP (some ⟨b3,0,none⟩)))] 36 a∧Sat [] w0 w [] [(1,k29)]∧Own (Lay.int .u64) 146 (some ⟨b3,0,none⟩) 5 u28 k29∧u28.length=5
 refine wp_cutq R35 ?_ ?_
 ·refine wp_block ?_
  obtain ⟨fu37,h33⟩:=loopO_some h33
  obtain ⟨I36,hI36⟩:=nm fun fu a w=>∃ (u23:List Int) (u27:Int) (k24:Chunk),loopN (fun s=>impl_tag.s0 x1 y10 s.1 s.2) fu (u23,u27)=some o32∧Kn [(0,(vS x0)),(1,(vS x1)),(5,(vP (some ⟨b3,0,none⟩))),(6,(vP (some ⟨b13,0,none⟩))),(7,(vI iS u27))] 36 a∧Sat [] w0 w [] [(1,k24),(2,k17)]∧Own (Lay.int .u64) 146 (some ⟨b3,0,none⟩) 5 u23 k24∧u23.length=5
  refine wp_loop_ghost I36 fu37 ?_ ?_
  ·rw [hI36]
   exact ⟨_,_,_,h33,(hk.al rfl),(hs.pick [(1,1),(2,2)] rfl),o5,lh6⟩
  clear h33 hk hs
  intro fu37 a w hI0
  rw [hI36] at hI0
  obtain ⟨u23,u27,k24,hi,hk,hs,o25,lh26⟩:=hI0
  obtain ⟨x38,H,h39⟩:=loop_round hi
  try dsimp only at H
  unfold impl_tag.s0 at H
  refine sq fun _ hK40=>sr fun _ hK41=>mv hk rfl fun a hk=>mv hk rfl fun a hk=>sles rfl hk rfl rfl rfl un9 fun a hk=>sv (.bool (decide (u27<(x1.size:Int)))) hk rfl rfl rfl fun a hk=>nx hK41 ?_
  rcases cond_some H with ⟨c42,H⟩ | ⟨c42,H⟩
  ·have hk:=hk.lit 14 c42 rfl
   refine cnd_true hk rfl rfl <| wp_skip <| hK40 _ _ <| sq fun _ hK43=>wp_block ?_
   refine wp_region_tree (.q 0 (.q 1 (.q 2 (.q 3 (.q 4 (.q 5 (.q 6 (.q 7 (.q 8 (.q 9 (.q 12 (.alt 10 (.alt 11 (.alt 13 (.last 14) .stop) .stop) .stop)))))))))))) mo (by kernel_rfl) (hs.pick [(1,1),(2,2)] rfl) fun _=>?_
   have hs:=hs.drew
   refine tqst _ hk rfl rfl rfl rfl (fun w hs=>slna (k:=1) hs rfl o25 lh26 rfl hk rfl rfl rfl ag146 sz146 fun a hk=>qe hk) fun a hk=>tqm hk rfl fun a hk=>tqm hk rfl fun a hk=>tqm hk rfl fun a hk=>tqv (vI iS (w64 (u27+16))) hk rfl rfl (fun _=>rfl) fun a hk=>tqm hk rfl fun a hk=>tqst _ hk rfl rfl rfl rfl (fun w hs=>sles rfl hk rfl rfl rfl un9 fun a hk=>qe hk) fun a hk=>tqst _ hk rfl rfl rfl rfl (fun w hs=>smn rfl hk rfl rfl rfl rfl fun a hk=>qe hk) fun a hk=>?_
   obtain ⟨c45,H⟩:=ite_no H
   refine tqst _ hk rfl rfl rfl rfl (fun w hs=>ssl_lh rfl hk rfl rfl rfl rfl rfl un9 c45.1 c45.2.1 c45.2.2 fun a hk=>qe hk) fun a hk=>?_
   obtain ⟨c46,H⟩:=ite_no H
   refine tqst _ hk rfl rfl rfl rfl (fun w hs=>ssa rfl hk rfl rfl rfl rfl c46 fun a hk=>qe hk) fun a hk=>tqst _ hk rfl rfl rfl rfl (fun w hs=>slna (k:=2) hs rfl o18 lh12 rfl hk rfl rfl rfl ag146 sz146 fun a hk=>qe hk) fun a hk=>tss hs hk rfl rfl fun _ hK_r44_10 w hs=>?_
   obtain ⟨y47,h48,H⟩:=bind_some H
   refine sc rfl en118 hk rfl rfl rfl (impl_limbsOf_t _ ((x1.extract u27.toNat (if (x1.size:Int)<(w64 (u27+16)) then (x1.size:Int) else (w64 (u27+16))).toNat)++(⟨#[1]⟩:ByteArray)) _ h48) ?_
   rintro _ w ⟨rfl,lh49,hG⟩ a hk
   have hs:=hs.call0 hG
   refine se (hs.pick [(1,1),(2,2)] rfl) hk (hK_r44_10 _ _ ?_)
   refine tss hs hk rfl rfl fun _ hK_r44_11 w hs=>?_
   obtain ⟨y50,h51,H⟩:=bind_some H
   refine sc rfl en120 hk rfl rfl rfl (impl_limbs_plus_t _ u23 lh26 y47 lh49 _ h51) ?_
   rintro _ w ⟨rfl,lh52,hG⟩ a hk
   have hs:=hs.call0 hG
   refine se (hs.pick [(1,1),(2,2)] rfl) hk (hK_r44_11 _ _ ?_)
   refine tss hs hk rfl rfl fun _ hK_r44_13 w hs=>?_
   obtain ⟨y53,h54,H⟩:=bind_some H
   refine sc rfl en121 hk rfl rfl rfl (impl_limbs_times_t _ y50 lh52 y10 lh12 _ h54) ?_
   rintro _ w ⟨rfl,lh55,hG⟩ a hk
   have hs:=hs.call0 hG
   refine se (hs.pick [(1,1),(2,2)] rfl) hk (hK_r44_13 _ _ ?_)
   refine tlst hk rfl rfl fun K_r44_14 hK_r44_14 w hF=>?_
   have hs:=hs.f hF
   refine sswa 1 y53 hs rfl o25 lh26 lh55 rfl rfl hk rfl rfl rfl rfl sz146 fun k56 w a hk o57 hs=>se trivial hk (hK_r44_14 _ _ fun w hF=>?_)
   have hs:=hs.f hF
   refine hK43 _ _ ?_
   apply wp_region_lit
   refine mv hk rfl fun a hk=>sv (vI iS (w64 (u27+16))) hk rfl rfl rfl fun a hk=>mv hk rfl fun a hk=>?_
   show wpList _ _ _ [] _ _
   refine wpList_nil ?_
   obtain rfl:=osi H
   obtain ⟨m58,hmm58,h39⟩:=h39
   show ∃ n',n'<_∧I36 n' _ _
   refine ⟨m58,hmm58,?_⟩
   rw [hI36]
   exact ⟨_,_,_,h39,(hk.al rfl),(hs.pick [(1,1),(2,2)] rfl),o57,lh55⟩
  have hk:=hk.lit 14 c42 rfl
  refine cnd_false hk rfl rfl <| wp_exit ?_
  obtain rfl:=osi H
  show R35 _ _
  rw [hR35]
  exact ⟨_,_,h39.symm,(hk.al rfl),(hs.pick [(1,1)] rfl),o25,lh26⟩
 intro a w hR0
 rw [hR35] at hR0
 obtain ⟨u28,k29,rfl,hk,hs,o30,lh31⟩:=hR0
 have H:=HL34
 try dsimp only at H
 refine hK19 _ _ <| sq fun _ hK59=>wp_region_tree (.q 0 (.q 2 (.q 3 (.alt 1 (.alt 4 (.last 5) .stop) .stop)))) mo (by kernel_rfl) (hs.pick [(1,1)] rfl) fun _=>?_
 have hs:=hs.drew
 refine tqst _ hk rfl rfl rfl rfl (fun w hs=>slna (k:=1) hs rfl o30 lh31 rfl hk rfl rfl rfl ag146 sz146 fun a hk=>qe hk) fun a hk=>tqm hk rfl fun a hk=>?_
 obtain ⟨c61,H⟩:=ite_no H
 refine tqst _ hk rfl rfl rfl rfl (fun w hs=>ssl_l rfl hk rfl rfl rfl rfl un9 c61.1 c61.2 fun a hk=>qe hk) fun a hk=>tss hs hk rfl rfl fun _ hK_r60_1 w hs=>?_
 obtain ⟨y62,h63,H⟩:=bind_some H
 refine sc rfl en122 hk rfl rfl rfl (impl_limbs_reduced_t _ u28 lh31 _ h63) ?_
 rintro _ w ⟨rfl,lh64,hG⟩ a hk
 have hs:=hs.call0 hG
 refine se (hs.pick [(1,1)] rfl) hk (hK_r60_1 _ _ ?_)
 refine tss hs hk rfl rfl fun _ hK_r60_4 w hs=>?_
 obtain ⟨y65,h66,H⟩:=bind_some H
 refine sc rfl en123 hk rfl rfl rfl (impl_limbs_bytes_t _ y62 lh64 (x0.extract (16:Int).toNat x0.size) _ h66) ?_
 rintro _ w ⟨rfl,hG⟩ a hk
 have hs:=hs.call0 hG
 refine se (hs.pick [(1,1)] rfl) hk (hK_r60_4 _ _ ?_)
 refine tlst hk rfl rfl fun K_r60_5 hK_r60_5 w hF=>?_
 have hs:=hs.f hF
 refine mv hk rfl fun a hk=>se trivial hk (hK_r60_5 _ _ fun w hF=>?_)
 have hs:=hs.f hF
 refine hK59 _ _ <| wp_ret ?_
 obtain rfl:=osi H
 exact fin hk _ [(vS y65)] rfl ⟨rfl,trivial⟩ ⟨rfl,(hs.pick [] rfl).dnil⟩
def repeat_ren:Go.Shelf.Ren:=⟨fun | 105=>88 | 212=>106 | 99=>107 | 165=>108 | 166=>99 | 170=>109 | 169=>102 | 263=>125 | 264=>126 | 206=>127 | 240=>115 | 241=>128 | 276=>136 | 277=>138 | n=>n,fun | 9=>9 | 3=>3 | 4=>4 | 20=>20 | 0=>0 | 46=>116 | 109=>132 | 5=>5 | 72=>123 | 76=>126 | 51=>110 | 146=>150 | 53=>144 | 148=>152 | 70=>121 | 37=>101 | 75=>125 | 127=>143 | 164=>160 | 80=>52 | n=>n,fun | n=>n⟩
theorem repeat_lays:Go.Proofs.Lays.n105 Tryz.prog repeat_ren:={
  mixed:=by kernel_rfl
  f99:=Tryz.func107.trans (congrArg some (by kernel_rfl))
  f105:=Tryz.func88.trans (congrArg some (by kernel_rfl))
  f165:=Tryz.func108.trans (congrArg some (by kernel_rfl))
  f166:=Tryz.func99.trans (congrArg some (by kernel_rfl))
  f169:=Tryz.func102.trans (congrArg some (by kernel_rfl))
  f170:=Tryz.func109.trans (congrArg some (by kernel_rfl))
  f206:=Tryz.func127.trans (congrArg some (by kernel_rfl))
  f212:=Tryz.func106.trans (congrArg some (by kernel_rfl))
  f240:=Tryz.func115.trans (congrArg some (by kernel_rfl))
  f241:=Tryz.func128.trans (congrArg some (by kernel_rfl))
  f263:=Tryz.func125.trans (congrArg some (by kernel_rfl))
  f264:=Tryz.func126.trans (congrArg some (by kernel_rfl))
  f276:=Tryz.func136.trans (congrArg some (by kernel_rfl))
  f277:=Tryz.func138.trans (congrArg some (by kernel_rfl))
  t0:=Tryz.underlying0
  a0:=Tryz.isAgg0
  z0:=Tryz.sizeOf0
  v0:=Tryz.zeroValue0
  t3:=Tryz.underlying3
  a3:=Tryz.isAgg3
  z3:=Tryz.sizeOf3
  v3:=Tryz.zeroValue3
  t4:=Tryz.underlying4
  a4:=Tryz.isAgg4
  z4:=Tryz.sizeOf4
  v4:=Tryz.zeroValue4
  t5:=Tryz.underlying5
  a5:=Tryz.isAgg5
  z5:=Tryz.sizeOf5
  v5:=Tryz.zeroValue5
  t9:=Tryz.underlying9
  a9:=Tryz.isAgg9
  z9:=Tryz.sizeOf9
  v9:=Tryz.zeroValue9
  t20:=Tryz.underlying20
  a20:=Tryz.isAgg20
  z20:=Tryz.sizeOf20
  v20:=Tryz.zeroValue20
  t37:=Tryz.underlying101
  a37:=Tryz.isAgg101
  z37:=Tryz.sizeOf101
  v37:=Tryz.zeroValue101
  t46:=Tryz.underlying116
  a46:=Tryz.isAgg116
  z46:=Tryz.sizeOf116
  v46:=Tryz.zeroValue116
  t51:=Tryz.underlying110
  a51:=Tryz.isAgg110
  z51:=Tryz.sizeOf110
  v51:=Tryz.zeroValue110
  t53:=Tryz.underlying144
  a53:=Tryz.isAgg144
  z53:=Tryz.sizeOf144
  v53:=Tryz.zeroValue144
  t70:=Tryz.underlying121
  a70:=Tryz.isAgg121
  z70:=Tryz.sizeOf121
  v70:=Tryz.zeroValue121
  t72:=Tryz.underlying123
  a72:=Tryz.isAgg123
  z72:=Tryz.sizeOf123
  v72:=Tryz.zeroValue123
  t75:=Tryz.underlying125
  a75:=Tryz.isAgg125
  z75:=Tryz.sizeOf125
  v75:=Tryz.zeroValue125
  t76:=Tryz.underlying126
  a76:=Tryz.isAgg126
  z76:=Tryz.sizeOf126
  v76:=Tryz.zeroValue126
  t109:=Tryz.underlying132
  a109:=Tryz.isAgg132
  z109:=Tryz.sizeOf132
  v109:=Tryz.zeroValue132
  t127:=Tryz.underlying143
  a127:=Tryz.isAgg143
  z127:=Tryz.sizeOf143
  v127:=Tryz.zeroValue143
  t146:=Tryz.underlying150
  a146:=Tryz.isAgg150
  z146:=Tryz.sizeOf150
  v146:=Tryz.zeroValue150
  t148:=Tryz.underlying152
  a148:=Tryz.isAgg152
  z148:=Tryz.sizeOf152
  v148:=Tryz.zeroValue152
  t164:=Tryz.underlying160
  a164:=Tryz.isAgg160
  z164:=Tryz.sizeOf160
  v164:=Tryz.zeroValue160 }
theorem repeat_extra:Builder.Extra Tryz.prog repeat_ren:={
  sizeBuilder:=by kernel_rfl
  liesBuilder:=by kernel_rfl
  t5:=Tryz.underlying5
  a5:=Tryz.isAgg5
  z5:=Tryz.sizeOf5
  v5:=Tryz.zeroValue5
  infoByte:=by kernel_rfl
  cellsByte:=by kernel_rfl
  sizeByte:=by kernel_rfl
  neB5:=by decide }
noncomputable def strings_Repeat.f (x0:ByteArray) (x1:Int):Option ByteArray:=if 0≤x1∧x1≤9223372036854775807∧x0.size*x1.toNat≤140737488355328 then some (⟨(Lib.repeatL x0.data.toList x1.toNat).toArray⟩) else none
theorem strings_Repeat_t (w0:World) (x0:ByteArray) (x1:Int) (r:ByteArray) (H:strings_Repeat.f x0 x1=some r) :
    Calls Tryz.prog 88 #[vS x0,vI iS x1] w0 (Ret (fun v w=>v=vS r∧Sat [] w0 w [] [])):=by
 unfold strings_Repeat.f at H
 rcases ite_some H with ⟨⟨h1,h2,h3⟩,H⟩ | ⟨_,H⟩
 rotate_left
 ·cases H
 obtain rfl:=osi H
 obtain ⟨c,rfl⟩:=Int.eq_ofNat_of_zero_le h1
 rw [Int.toNat_natCast] at h3
 refine (Any.strings_Repeat repeat_lays repeat_extra x0 c w0 (by omega) h3).mono ?_
 rintro e w' ⟨rfl,hB⟩
 exact ⟨_,rfl,rfl,Sat.ofBelow hB⟩
noncomputable def impl_padded.f (x0:ByteArray):Option (ByteArray) :=
  ((strings_Repeat.f (⟨#[0]⟩:ByteArray) (Int.tmod (w64 (16-(Int.tmod (x0.size:Int) 16))) 16)).bind fun y3=>(if x0.size+y3.size≤1152921504606846976 then (some (x0++y3)) else none))
theorem impl_padded_t (w0:World) (x0:ByteArray) (r:ByteArray) (H:impl_padded.f x0=some r) :
    Calls Tryz.prog 104 #[vS x0] w0 (Ret (fun v w=>v=vS r∧Sat [] w0 w [] [])):=by
 have hs:=sat0 w0 [] (by simp)
 unfold impl_padded.f at H
 refine enter Tryz.func104 rfl Tryz.ntmps104 rfl fun a hk=>sr fun _ hK1=>mv hk rfl fun a hk=>nx hK1 <| sr fun _ hK2=>mv hk rfl fun a hk=>mv hk rfl fun a hk=>sles rfl hk rfl rfl rfl un9 fun a hk=>sv (vI iS (Int.tmod (x0.size:Int) 16)) hk rfl rfl rfl fun a hk=>sv (vI iS (w64 (16-(Int.tmod (x0.size:Int) 16)))) hk rfl rfl rfl fun a hk=>sv (vI iS (Int.tmod (w64 (16-(Int.tmod (x0.size:Int) 16))) 16)) hk rfl rfl rfl fun a hk=>?_
 obtain ⟨y3,h4,H⟩:=bind_some H
 refine sc rfl en88 hk rfl rfl rfl (strings_Repeat_t _ (⟨#[0]⟩:ByteArray) (Int.tmod (w64 (16-(Int.tmod (x0.size:Int) 16))) 16) _ h4) ?_
 rintro _ w ⟨rfl,hG⟩ a hk
 have hs:=hs.call0 hG
 obtain ⟨c5,H⟩:=ite_no H
 refine ssa rfl hk rfl rfl rfl rfl c5 fun a hk=>mv hk rfl fun a hk=>nx hK2 <| wp_ret ?_
 obtain rfl:=osi H
 exact fin hk _ [(vS (x0++y3))] rfl ⟨rfl,trivial⟩ ⟨rfl,(hs.pick [] rfl).dnil⟩
noncomputable def impl_boxTag.f (x0:ByteArray) (x1:ByteArray) (x2:ByteArray) (x3:ByteArray):Option (ByteArray) :=
  ((impl_stream.f x0 x1 0).bind fun y4=>(if 0≤(32:Int)∧(32:Int)≤(y4.size:Int) then ((impl_padded.f x2).bind fun y7=>((impl_padded.f x3).bind fun y9=>(if y7.size+y9.size≤1152921504606846976 then ((impl_little.f (x2.size:Int) 8).bind fun y12=>(if (y7++y9).size+y12.size≤1152921504606846976 then ((impl_little.f (x3.size:Int) 8).bind fun y15=>(if ((y7++y9)++y12).size+y15.size≤1152921504606846976 then ((impl_tag.f (y4.extract 0 (32:Int).toNat) (((y7++y9)++y12)++y15)).bind fun y18=>(some y18)) else none)) else none)) else none))) else none))
theorem impl_boxTag_t (w0:World) (x0:ByteArray) (x1:ByteArray) (x2:ByteArray) (x3:ByteArray) (r:ByteArray) (H:impl_boxTag.f x0 x1 x2 x3=some r) :
    Calls Tryz.prog 83 #[vS x0,vS x1,vS x2,vS x3] w0 (Ret (fun v w=>v=vS r∧Sat [] w0 w [] [])):=by
 have hs:=sat0 w0 [] (by simp)
 unfold impl_boxTag.f at H
 refine enter Tryz.func83 rfl Tryz.ntmps83 rfl fun a hk=>sr fun _ hK1=>mv hk rfl fun a hk=>nx hK1 <| sq fun _ hK2=>wp_region_tree (.q 0 (.q 1 (.q 2 (.q 3 (.q 4 (.q 5 (.q 6 (.q 7 (.q 8 (.q 9 (.q 10 (.q 11 (.q 12 (.alt 13 (.alt 14 (.alt 15 (.alt 16 (.alt 17 (.last 18) .stop) .stop) .stop) .stop) .stop)))))))))))))) mo (by kernel_rfl) (hs.pick [] rfl) fun _=>?_
 have hs:=hs.drew
 refine tqm hk rfl fun a hk=>tqm hk rfl fun a hk=>?_
 obtain ⟨y4,h5,H⟩:=bind_some H
 refine tqst (vS y4) hk rfl rfl rfl rfl (fun w hs=>sc rfl en101 hk rfl rfl rfl (impl_stream_t _ x0 x1 0 _ h5) fun _ w hR a hk=>qc hR hk) fun a hk=>?_
 obtain ⟨c6,H⟩:=ite_no H
 refine tqst _ hk rfl rfl rfl rfl (fun w hs=>ssl_h rfl hk rfl rfl rfl rfl un9 c6.1 c6.2 fun a hk=>qe hk) fun a hk=>tqm hk rfl fun a hk=>?_
 obtain ⟨y7,h8,H⟩:=bind_some H
 refine tqst (vS y7) hk rfl rfl rfl rfl (fun w hs=>sc rfl en104 hk rfl rfl rfl (impl_padded_t _ x2 _ h8) fun _ w hR a hk=>qc hR hk) fun a hk=>tqm hk rfl fun a hk=>?_
 obtain ⟨y9,h10,H⟩:=bind_some H
 refine tqst (vS y9) hk rfl rfl rfl rfl (fun w hs=>sc rfl en104 hk rfl rfl rfl (impl_padded_t _ x3 _ h10) fun _ w hR a hk=>qc hR hk) fun a hk=>?_
 obtain ⟨c11,H⟩:=ite_no H
 refine tqst _ hk rfl rfl rfl rfl (fun w hs=>ssa rfl hk rfl rfl rfl rfl c11 fun a hk=>qe hk) fun a hk=>tqm hk rfl fun a hk=>tqst _ hk rfl rfl rfl rfl (fun w hs=>sles rfl hk rfl rfl rfl un9 fun a hk=>qe hk) fun a hk=>?_
 obtain ⟨y12,h13,H⟩:=bind_some H
 refine tqst (vS y12) hk rfl rfl rfl rfl (fun w hs=>sc rfl en84 hk rfl rfl rfl (impl_little_t _ (x2.size:Int) 8 _ h13) fun _ w hR a hk=>qc hR hk) fun a hk=>?_
 obtain ⟨c14,H⟩:=ite_no H
 refine tqst _ hk rfl rfl rfl rfl (fun w hs=>ssa rfl hk rfl rfl rfl rfl c14 fun a hk=>qe hk) fun a hk=>tss hs hk rfl rfl fun _ hK_r3_13 w hs=>mv hk rfl fun a hk=>se (hs.pick [] rfl) hk (hK_r3_13 _ _ ?_)
 refine tss hs hk rfl rfl fun _ hK_r3_14 w hs=>sles rfl hk rfl rfl rfl un9 fun a hk=>se (hs.pick [] rfl) hk (hK_r3_14 _ _ ?_)
 refine tss hs hk rfl rfl fun _ hK_r3_15 w hs=>?_
 obtain ⟨y15,h16,H⟩:=bind_some H
 refine sc rfl en84 hk rfl rfl rfl (impl_little_t _ (x3.size:Int) 8 _ h16) ?_
 rintro _ w ⟨rfl,hG⟩ a hk
 have hs:=hs.call0 hG
 refine se (hs.pick [] rfl) hk (hK_r3_15 _ _ ?_)
 refine tss hs hk rfl rfl fun _ hK_r3_16 w hs=>?_
 obtain ⟨c17,H⟩:=ite_no H
 refine ssa rfl hk rfl rfl rfl rfl c17 fun a hk=>se (hs.pick [] rfl) hk (hK_r3_16 _ _ ?_)
 refine tss hs hk rfl rfl fun _ hK_r3_17 w hs=>?_
 obtain ⟨y18,h19,H⟩:=bind_some H
 refine sc rfl en103 hk rfl rfl rfl (impl_tag_t _ (y4.extract 0 (32:Int).toNat) (((y7++y9)++y12)++y15) _ h19) ?_
 rintro _ w ⟨rfl,hG⟩ a hk
 have hs:=hs.call0 hG
 refine se (hs.pick [] rfl) hk (hK_r3_17 _ _ ?_)
 refine tlst hk rfl rfl fun K_r3_18 hK_r3_18 w hF=>?_
 have hs:=hs.f hF
 refine mv hk rfl fun a hk=>se trivial hk (hK_r3_18 _ _ fun w hF=>?_)
 have hs:=hs.f hF
 refine hK2 _ _ <| wp_ret ?_
 obtain rfl:=osi H
 exact fin hk _ [(vS y18)] rfl ⟨rfl,trivial⟩ ⟨rfl,(hs.pick [] rfl).dnil⟩
noncomputable def impl_seal.f (x0:ByteArray) (x1:ByteArray) (x2:ByteArray) (x3:ByteArray):Option (ByteArray) :=
  ((impl_chaXor.f x0 x1 1 x3).bind fun y3=>((impl_boxTag.f x0 x1 x2 y3).bind fun y6=>(if y3.size+y6.size≤1152921504606846976 then (some (y3++y6)) else none)))
theorem impl_seal_t (w0:World) (x0:ByteArray) (x1:ByteArray) (x2:ByteArray) (x3:ByteArray) (r:ByteArray) (H:impl_seal.f x0 x1 x2 x3=some r) :
    Calls Tryz.prog 60 #[vS x0,vS x1,vS x2,vS x3] w0 (Ret (fun v w=>v=vS r∧Sat [] w0 w [] [])):=by
 have hs:=sat0 w0 [] (by simp)
 unfold impl_seal.f at H
 refine enter Tryz.func60 rfl Tryz.ntmps60 rfl fun a hk=>sr fun _ hK1=>mv hk rfl fun a hk=>nx hK1 <| sr fun _ hK2=>mv hk rfl fun a hk=>mv hk rfl fun a hk=>mv hk rfl fun a hk=>?_
 obtain ⟨y3,h4,H⟩:=bind_some H
 refine sc rfl en82 hk rfl rfl rfl (impl_chaXor_t _ x0 x1 1 x3 _ h4) ?_
 rintro _ w ⟨rfl,hG⟩ a hk
 have hs:=hs.call0 hG
 refine mv hk rfl fun a hk=>nx hK2 <| sr fun _ hK5=>mv hk rfl fun a hk=>mv hk rfl fun a hk=>mv hk rfl fun a hk=>mv hk rfl fun a hk=>mv hk rfl fun a hk=>?_
 obtain ⟨y6,h7,H⟩:=bind_some H
 refine sc rfl en83 hk rfl rfl rfl (impl_boxTag_t _ x0 x1 x2 y3 _ h7) ?_
 rintro _ w ⟨rfl,hG⟩ a hk
 have hs:=hs.call0 hG
 obtain ⟨c8,H⟩:=ite_no H
 refine ssa rfl hk rfl rfl rfl rfl c8 fun a hk=>mv hk rfl fun a hk=>nx hK5 <| wp_ret ?_
 obtain rfl:=osi H
 exact fin hk _ [(vS (y3++y6))] rfl ⟨rfl,trivial⟩ ⟨rfl,(hs.pick [] rfl).dnil⟩
noncomputable def impl_nonceOf.f (x0:Int) (x1:Int) (x2:Int):Option (ByteArray) :=
  ((impl_little.f x0 1).bind fun y3=>((impl_little.f x1 2).bind fun y5=>(if y3.size+y5.size≤1152921504606846976 then ((impl_little.f 0 1).bind fun y8=>(if (y3++y5).size+y8.size≤1152921504606846976 then ((impl_little.f x2 8).bind fun y11=>(if ((y3++y5)++y8).size+y11.size≤1152921504606846976 then (some (((y3++y5)++y8)++y11)) else none)) else none)) else none)))
theorem impl_nonceOf_t (w0:World) (x0:Int) (x1:Int) (x2:Int) (r:ByteArray) (H:impl_nonceOf.f x0 x1 x2=some r) :
    Calls Tryz.prog 61 #[vI iS x0,vI iS x1,vI iS x2] w0 (Ret (fun v w=>v=vS r∧Sat [] w0 w [] [])):=by
 have hs:=sat0 w0 [] (by simp)
 unfold impl_nonceOf.f at H
 refine enter Tryz.func61 rfl Tryz.ntmps61 rfl fun a hk=>sr fun _ hK1=>mv hk rfl fun a hk=>nx hK1 <| sr fun _ hK2=>mv hk rfl fun a hk=>?_
 obtain ⟨y3,h4,H⟩:=bind_some H
 refine sc rfl en84 hk rfl rfl rfl (impl_little_t _ x0 1 _ h4) ?_
 rintro _ w ⟨rfl,hG⟩ a hk
 have hs:=hs.call0 hG
 refine mv hk rfl fun a hk=>?_
 obtain ⟨y5,h6,H⟩:=bind_some H
 refine sc rfl en84 hk rfl rfl rfl (impl_little_t _ x1 2 _ h6) ?_
 rintro _ w ⟨rfl,hG⟩ a hk
 have hs:=hs.call0 hG
 obtain ⟨c7,H⟩:=ite_no H
 refine ssa rfl hk rfl rfl rfl rfl c7 fun a hk=>?_
 obtain ⟨y8,h9,H⟩:=bind_some H
 refine sc rfl en84 hk rfl rfl rfl (impl_little_t _ 0 1 _ h9) ?_
 rintro _ w ⟨rfl,hG⟩ a hk
 have hs:=hs.call0 hG
 obtain ⟨c10,H⟩:=ite_no H
 refine ssa rfl hk rfl rfl rfl rfl c10 fun a hk=>mv hk rfl fun a hk=>?_
 obtain ⟨y11,h12,H⟩:=bind_some H
 refine sc rfl en84 hk rfl rfl rfl (impl_little_t _ x2 8 _ h12) ?_
 rintro _ w ⟨rfl,hG⟩ a hk
 have hs:=hs.call0 hG
 obtain ⟨c13,H⟩:=ite_no H
 refine ssa rfl hk rfl rfl rfl rfl c13 fun a hk=>mv hk rfl fun a hk=>nx hK2 <| wp_ret ?_
 obtain rfl:=osi H
 exact fin hk _ [(vS (((y3++y5)++y8)++y11))] rfl ⟨rfl,trivial⟩ ⟨rfl,(hs.pick [] rfl).dnil⟩
noncomputable def impl_sealed.f (x0:ByteArray) (x1:Int) (x2:Int) (x3:Int) (x4:ByteArray):Option (ByteArray) :=
  ((impl_nonceOf.f x1 x2 x3).bind fun y3=>((impl_seal.f x0 y3 (⟨#[98,108,111,99,107]⟩:ByteArray) x4).bind fun y5=>(some y5)))
theorem impl_sealed_t (w0:World) (x0:ByteArray) (x1:Int) (x2:Int) (x3:Int) (x4:ByteArray) (r:ByteArray) (H:impl_sealed.f x0 x1 x2 x3 x4=some r) :
    Calls Tryz.prog 35 #[vS x0,vI iS x1,vI iS x2,vI iS x3,vS x4] w0 (Ret (fun v w=>v=vS r∧Sat [] w0 w [] [])):=by
 have hs:=sat0 w0 [] (by simp)
 unfold impl_sealed.f at H
 refine enter Tryz.func35 rfl Tryz.ntmps35 rfl fun a hk=>sr fun _ hK1=>mv hk rfl fun a hk=>nx hK1 <| sr fun _ hK2=>mv hk rfl fun a hk=>mv hk rfl fun a hk=>mv hk rfl fun a hk=>mv hk rfl fun a hk=>?_
 obtain ⟨y3,h4,H⟩:=bind_some H
 refine sc rfl en61 hk rfl rfl rfl (impl_nonceOf_t _ x1 x2 x3 _ h4) ?_
 rintro _ w ⟨rfl,hG⟩ a hk
 have hs:=hs.call0 hG
 refine mv hk rfl fun a hk=>?_
 obtain ⟨y5,h6,H⟩:=bind_some H
 refine sc rfl en60 hk rfl rfl rfl (impl_seal_t _ x0 y3 (⟨#[98,108,111,99,107]⟩:ByteArray) x4 _ h6) ?_
 rintro _ w ⟨rfl,hG⟩ a hk
 have hs:=hs.call0 hG
 refine mv hk rfl fun a hk=>nx hK2 <| wp_ret ?_
 obtain rfl:=osi H
 exact fin hk _ [(vS y5)] rfl ⟨rfl,trivial⟩ ⟨rfl,(hs.pick [] rfl).dnil⟩
noncomputable def impl_blocksInts.s0 (l0:List S_Block) (u15:List Int) (u14:Int):Option (((List Int)×Int) ⊕ Ex ((List Int)) ((List Int))) :=
  (bif (decide (u14<(l0.length:Int))) then (if 0≤u14∧u14<(l0.length:Int) then (if u15.length+([(l0.getD u14.toNat z_Block).Id,(l0.getD u14.toNat z_Block).Leaf,(l0.getD u14.toNat z_Block).Value]).length≤1073741824 then (some (.inl ((u15++([(l0.getD u14.toNat z_Block).Id,(l0.getD u14.toNat z_Block).Leaf,(l0.getD u14.toNat z_Block).Value])),(w64 (u14+1))))) else none) else none) else (some (.inr (.out u15))))
noncomputable def impl_blocksInts.f (l0:List S_Block):Option ((List Int)) :=
  ((loopO (fun s=>impl_blocksInts.s0 l0 s.1 s.2) ([(l0.length:Int)],0)).bind fun o=>match o with | .out u20=>(some u20) | .ret r=>(some r))
theorem impl_blocksInts_t (w0:World) (A0_:Option Addr) (p0_:Nat) (l0:List S_Block) (k0_:Chunk) (v0_:View L_Block A0_ p0_ l0 k0_) (w0_:Has w0 k0_) (r:(List Int)) (H:impl_blocksInts.f l0=some r) :
    Calls Tryz.prog 62 #[vL A0_ l0.length p0_] w0 (Ret (fun v w=>∃ (A0:Option Addr) (p0:Nat) (k0:Chunk),v=vL A0 r.length p0∧Own (Lay.int iS) 3 A0 p0 r k0∧Sat [] w0 w [] [(0,k0)])):=by
 have hs:=sat0 w0 [(1,k0_)] (by simp only [List.mem_cons,List.not_mem_nil,or_false];rintro x (rfl) <;> assumption)
 unfold impl_blocksInts.f at H
 refine enter Tryz.func62 rfl Tryz.ntmps62 rfl fun a hk=>sr fun _ hK1=>mv hk rfl fun a hk=>nx hK1 <| sr fun _ hK2=>mv hk rfl fun a hk=>sle rfl hk rfl rfl rfl un42 fun a hk=>sbs (L:=(Lay.int iS)) (pv:=[(0,(vI iS (l0.length:Int)))]) (xs:=[(l0.length:Int)]) (ess:=[[vI iS (l0.length:Int)]]) 2 hs rfl hk rfl rfl rfl un22 (bs3_9 (l0.length:Int)) (AllOwn.cons0 ⟨rfl,rfl⟩ AllOwn.nil) rfl rfl rfl fun b3 k4 w a hk o5 hs=>mv hk rfl fun a hk=>nx hK2 <| sq fun _ hK6=>sr fun _ hK7=>mv hk rfl fun a hk=>sle rfl hk rfl rfl rfl un42 fun a hk=>mv hk rfl fun a hk=>nx hK7 ?_
 obtain ⟨o25,h26,HL27⟩:=bind_some H
 clear H
 obtain ⟨R28,hR28⟩:=nm fun a w=>∃ (u20:List Int) (A23:Option Addr) (p24:Nat) (k21:Chunk),o25 = .out u20∧Kn [(3,(vL A23 u20.length p24))] 26 a∧Sat [] w0 w [(1,k0_)] [(2,k21)]∧Own (Lay.int iS) 3 A23 p24 u20 k21
 refine wp_cutq R28 ?_ ?_
 ·refine wp_block ?_
  obtain ⟨fu30,h26⟩:=loopO_some h26
  obtain ⟨I29,hI29⟩:=nm fun fu a w=>∃ (u15:List Int) (u14:Int) (A18:Option Addr) (p19:Nat) (k16:Chunk),loopN (fun s=>impl_blocksInts.s0 l0 s.1 s.2) fu (u15,u14)=some o25∧Kn [(3,(vL A18 u15.length p19)),(9,(vL A0_ l0.length p0_)),(10,(vI iS (l0.length:Int))),(11,(vI iS u14))] 26 a∧Sat [] w0 w [(1,k0_)] [(2,k16)]∧Own (Lay.int iS) 3 A18 p19 u15 k16
  refine wp_loop_ghost I29 fu30 ?_ ?_
  ·rw [hI29]
   exact ⟨_,_,(some ⟨b3,0,none⟩),1,_,h26,(hk.al rfl),(hs.pick [(2,2)] rfl),o5⟩
  clear h26 hk hs
  intro fu30 a w hI0
  rw [hI29] at hI0
  obtain ⟨u15,u14,A18,p19,k16,hi,hk,hs,o17⟩:=hI0
  obtain ⟨x31,H,h32⟩:=loop_round hi
  try dsimp only at H
  unfold impl_blocksInts.s0 at H
  refine sr fun _ hK33=>sv (.bool (decide (u14<(l0.length:Int)))) hk rfl rfl rfl fun a hk=>nx hK33 <| sq fun _ hK34=>?_
  rcases cond_some H with ⟨c35,H⟩ | ⟨c35,H⟩
  ·have hk:=hk.lit 12 c35 rfl
   refine cnd_true hk rfl rfl <| wp_skip <| hK34 _ _ <| sq fun _ hK36=>wp_block ?_
   refine sr fun _ hK37=>?_
   obtain ⟨c38,H⟩:=ite_no H
   obtain ⟨b39,q40,hAc38⟩:=(v0_).some_ u14 c38.1 c38.2
   refine si rfl hk rfl rfl rfl rfl un42 sz100 c38.1 c38.2 hAc38 fun a hk=>?_
   obtain ⟨_,rfl,e41⟩:=(v0_).at_ z_Block u14 c38.1 c38.2
   refine sln [vI iS ((l0.getD u14.toNat z_Block).Id),vI iS ((l0.getD u14.toNat z_Block).Leaf),vI iS ((l0.getD u14.toNat z_Block).Value)] rfl hk rfl rfl rfl ag100 sz100 (cells_at e41 (hs.hasD (k:=1) rfl)) fun a hk=>salx 4 hs rfl hk rfl rfl ze100 rfl fun b42 w a hk hs=>ssw 4 hs rfl rfl hk rfl rfl rfl rfl sz100 (by simp [Value.oneCell']) rfl fun w a hk hs=>nx hK37 ?_
   apply wp_region_lit
   refine mv hk rfl fun a hk=>sf ⟨b42,0,none⟩ rfl hk rfl rfl rfl fd100_0 rfl fun a hk=>sl rfl hk rfl rfl rfl ag3 (box_cell hs (k:=4) rfl rfl) fun a hk=>sf ⟨b42,1,none⟩ rfl hk rfl rfl rfl fd100_1 rfl fun a hk=>sl rfl hk rfl rfl rfl ag3 (box_cell hs (k:=4) rfl rfl) fun a hk=>sf ⟨b42,2,none⟩ rfl hk rfl rfl rfl fd100_2 rfl fun a hk=>sl rfl hk rfl rfl rfl ag3 (box_cell hs (k:=4) rfl rfl) fun a hk=>sbs (L:=(Lay.int iS)) (pv:=[(0,(vI iS ((l0.getD u14.toNat z_Block).Id))),(1,(vI iS ((l0.getD u14.toNat z_Block).Leaf))),(2,(vI iS ((l0.getD u14.toNat z_Block).Value)))]) (xs:=[(l0.getD u14.toNat z_Block).Id,(l0.getD u14.toNat z_Block).Leaf,(l0.getD u14.toNat z_Block).Value]) (ess:=[[vI iS ((l0.getD u14.toNat z_Block).Id)],[vI iS ((l0.getD u14.toNat z_Block).Leaf)],[vI iS ((l0.getD u14.toNat z_Block).Value)]]) 5 hs rfl hk rfl rfl rfl un22 (bs3_10 ((l0.getD u14.toNat z_Block).Id) ((l0.getD u14.toNat z_Block).Leaf) ((l0.getD u14.toNat z_Block).Value)) (AllOwn.cons0 ⟨rfl,rfl⟩ (AllOwn.cons0 ⟨rfl,rfl⟩ (AllOwn.cons0 ⟨rfl,rfl⟩ AllOwn.nil))) rfl rfl rfl fun b43 k44 w a hk o45 hs=>?_
   obtain ⟨c46,H⟩:=ite_no H
   refine sap 2 (xs:=u15) (ys:=[(l0.getD u14.toNat z_Block).Id,(l0.getD u14.toNat z_Block).Leaf,(l0.getD u14.toNat z_Block).Value]) (flat_flat:((Lay.int iS)).Flat) hs rfl o17 o45.view (hs.hasG (k:=5) rfl) rfl hk rfl rfl rfl rfl rfl rfl un22 mk3 rfl rfl rfl c46 fun A47 p48 k49 w a hk o50 hs=>mv hk rfl fun a hk=>nx hK36 ?_
   apply wp_region_lit
   refine sv (vI iS (w64 (u14+1))) hk rfl rfl rfl fun a hk=>mv hk rfl fun a hk=>?_
   show wpList _ _ _ [] _ _
   refine wpList_nil ?_
   obtain rfl:=osi H
   obtain ⟨m51,hmm51,h32⟩:=h32
   show ∃ n',n'<_∧I29 n' _ _
   refine ⟨m51,hmm51,?_⟩
   rw [hI29]
   exact ⟨_,_,A47,p48,_,h32,(hk.al rfl),(hs.pick [(2,2)] rfl),o50⟩
  have hk:=hk.lit 12 c35 rfl
  refine cnd_false hk rfl rfl <| wp_exit ?_
  obtain rfl:=osi H
  show R28 _ _
  rw [hR28]
  exact ⟨_,A18,p19,_,h32.symm,(hk.al rfl),(hs.pick [(2,2)] rfl),o17⟩
 intro a w hR0
 rw [hR28] at hR0
 obtain ⟨u20,A23,p24,k21,rfl,hk,hs,o22⟩:=hR0
 have H:=HL27
 try dsimp only at H
 refine hK6 _ _ <| sr fun _ hK52=>mv hk rfl fun a hk=>mv hk rfl fun a hk=>nx hK52 <| wp_ret ?_
 obtain rfl:=osi H
 exact fin hk _ [(vL A23 u20.length p24)] rfl ⟨rfl,trivial⟩ ⟨A23,p24,_,rfl,o22,(hs.pick [(0,2)] rfl).dnil⟩
noncomputable def impl_intsText.s0 (l0:List Int) (u1:Int) (u2:ByteArray):Option ((Int×ByteArray) ⊕ Ex (ByteArray) (ByteArray)) :=
  (bif (decide (u1<(l0.length:Int))) then (if 0≤u1∧u1<(l0.length:Int) then ((impl_little.f (l0.getD u1.toNat 0) 4).bind fun y=>(if u2.size+y.size≤1073741824 then (some (.inl ((w64 (u1+1)),(u2++y)))) else none)) else none) else (some (.inr (.out u2))))
noncomputable def impl_intsText.f (l0:List Int):Option (ByteArray) :=
  ((loopO (fun s=>impl_intsText.s0 l0 s.1 s.2) (0,(⟨#[]⟩:ByteArray))).bind fun o=>match o with | .out u=>(some u) | .ret r=>(some r))
theorem impl_intsText_n:True:=trivial
set_option maxRecDepth 100000 in
set_option maxHeartbeats 1000000 in
theorem impl_intsText_t (w0:World) (A0_:Option Addr) (p0_:Nat) (l0:List Int) (k0_:Chunk) (v0_:View (Lay.int iS) A0_ p0_ l0 k0_) (w0_:Has w0 k0_) (r:ByteArray) (H:impl_intsText.f l0=some r) :
    Calls Tryz.prog 85 #[vL A0_ l0.length p0_] w0 (Ret (fun v w=>v=vS r∧Sat [] w0 w [] [])):=by
 unfold impl_intsText.f at H
 refine enter Tryz.func85 rfl Tryz.ntmps85 rfl fun a hk=>sr fun _ hK1=>mv hk rfl fun a hk=>nx hK1 <| sr fun _ hK2=>sal rfl hk rfl rfl (by kernel_rfl:zeroB Tryz.prog 123=some (.agg #[vP none,vL none 0 0])) fun a hk=>nx hK2 ?_
 have hgen:∃ w b,w=(w0.alloc (.cells (Value.cells (.agg #[vP none,vL none 0 0])) 123))∧b=w0.heap.size∧Lib.IsBuilder 123 5 w0.heap.size b (Lib.byteCells (⟨#[]⟩:ByteArray).data.toList) w∧Below w0.heap.size w0 w :=
   ⟨_,_,rfl,rfl,Lib.fresh_isBuilder 123 5 w0,(Below.refl _ w0).alloc (Nat.le_refl _) _⟩
 obtain ⟨w,b,ew,eb,hb,hbel⟩:=hgen
 rw [← eb] at hk
 rw [← ew]
 clear ew eb
 refine sq fun _ hK3=>sr fun _ hK4=>mv hk rfl fun a hk=>sle rfl hk rfl rfl rfl un22 fun a hk=>mv hk rfl fun a hk=>nx hK4 ?_
 obtain ⟨o,h,HL⟩:=bind_some H
 clear H
 obtain ⟨R,hR⟩:=nm fun a w=>∃ u:ByteArray,o = .out u∧Kn [(3,vP (some ⟨b,0,none⟩))] 17 a∧Lib.IsBuilder 123 5 w0.heap.size b (Lib.byteCells u.data.toList) w∧Below w0.heap.size w0 w
 refine wp_cutq R ?_ ?_
 ·refine wp_block ?_
  obtain ⟨fu,h⟩:=loopO_some h
  obtain ⟨I,hI⟩:=nm fun fu a w=>∃ (u1:Int) (u2:ByteArray),loopN (fun s=>impl_intsText.s0 l0 s.1 s.2) fu (u1,u2)=some o∧Kn [(3,vP (some ⟨b,0,none⟩)),(6,(vL A0_ l0.length p0_)),(7,(vI iS (l0.length:Int))),(8,(vI iS u1))] 17 a∧Lib.IsBuilder 123 5 w0.heap.size b (Lib.byteCells u2.data.toList) w∧Below w0.heap.size w0 w
  refine wp_loop_ghost I fu ?_ ?_
  ·rw [hI]
   exact ⟨0,_,h,(hk.al rfl),hb,hbel⟩
  clear h hk hb hbel
  intro fu a w hI0
  rw [hI] at hI0
  obtain ⟨u1,u2,hi,hk,hb,hbel⟩:=hI0
  obtain ⟨x13,H,h14⟩:=loop_round hi
  try dsimp only at H
  unfold impl_intsText.s0 at H
  refine sr fun _ hK15=>sv (.bool (decide (u1<(l0.length:Int)))) hk rfl rfl rfl fun a hk=>nx hK15 <| sq fun _ hK16=>?_
  rcases cond_some H with ⟨c17,H⟩ | ⟨c17,H⟩
  ·have hk:=hk.lit 9 c17 rfl
   refine cnd_true hk rfl rfl <| wp_skip <| hK16 _ _ <| sq fun _ hK18=>wp_block ?_
   refine sr fun _ hK19=>?_
   obtain ⟨c21,H⟩:=ite_no H
   obtain ⟨b22,q23,hAc21⟩:=(v0_).some_ u1 c21.1 c21.2
   refine si rfl hk rfl rfl rfl rfl un22 sz3 c21.1 c21.2 hAc21 fun a hk=>?_
   obtain ⟨_,rfl,e24⟩:=(v0_).at_ 0 u1 c21.1 c21.2
   refine sl (v:=(vI iS (l0.getD u1.toNat 0))) rfl hk rfl rfl rfl ag3 ((e24 0 _ rfl).cell (has_bel w0_ hbel)) fun a hk=>mv hk rfl fun a hk=>nx hK19 ?_
   apply wp_region_lit
   refine mv hk rfl fun a hk=>?_
   obtain ⟨y25,h26,H⟩:=bind_some H
   refine sc rfl en84 hk rfl rfl rfl (impl_little_t _ (l0.getD u1.toNat 0) 4 y25 h26) ?_
   rintro _ w2 ⟨rfl,hG⟩ a hk
   have hb2:Lib.IsBuilder 123 5 w0.heap.size b (Lib.byteCells u2.data.toList) w2:=by
     rcases hb with hb | hb
     ·exact .inl (bld_F hb hG.below)
     ·exact .inr (bld_F hb hG.below)
   have hbel2:Below w0.heap.size w0 w2:=hbel.trans (hG.below.mono hbel.size)
   obtain ⟨c27,H⟩:=ite_no H
   refine sc rfl en99 hk rfl rfl rfl ((ws w0.heap.size b _ y25 w2 hb2 (by rw [Lib.byteCells_length,ba_len];omega) hbel2.size).mono (R':=Ret (fun v w'=>v = .tuple #[vI iS y25.size,.nilIface]∧(Lib.BuilderAt 123 5 w0.heap.size b (vP (some ⟨b,0,none⟩)) (Lib.byteCells u2.data.toList++Lib.strCells y25) w'∧Below w0.heap.size w2 w'))) (fun e w' h=>⟨_,h.1,rfl,h.2⟩)) ?_
   rintro _ w3 ⟨rfl,hb3,hbel3⟩ a hk
   refine nx hK18 ?_
   apply wp_region_lit
   refine sv (vI iS (w64 (u1+1))) hk rfl rfl rfl fun a hk=>mv hk rfl fun a hk=>?_
   show wpList _ _ _ [] _ _
   refine wpList_nil ?_
   obtain rfl:=osi H
   obtain ⟨m,hmm,h14⟩:=h14
   show ∃ n',n'<_∧I n' _ _
   refine ⟨m,hmm,?_⟩
   rw [hI]
   exact ⟨_,_,h14,(hk.al rfl),.inr (by rw [bc_app];exact hb3),hbel2.trans hbel3⟩
  have hk:=hk.lit 9 c17 rfl
  refine cnd_false hk rfl rfl <| wp_exit ?_
  obtain rfl:=osi H
  show R _ _
  rw [hR]
  exact ⟨_,h14.symm,(hk.al rfl),hb,hbel⟩
 intro a w hR0
 rw [hR] at hR0
 obtain ⟨u,rfl,hk,hb,hbel⟩:=hR0
 have H:=HL
 try dsimp only at H
 obtain rfl:=osi H
 refine hK3 _ _ <| sr fun _ hK5=>sc rfl en102 hk rfl rfl rfl ((Builder_String_any w0.heap.size b _ w hb hbel.size).mono (R':=Ret (fun v w'=>v=vS u∧Below w0.heap.size w w')) (fun e w' h=>⟨_,h.1,rfl,h.2⟩)) ?_
 rintro _ w4 ⟨rfl,hbel4⟩ a hk
 refine mv hk rfl fun a hk=>nx hK5 <| wp_ret ?_
 exact fin hk _ [(vS u)] rfl ⟨rfl,trivial⟩ ⟨rfl,Sat.ofBelow (hbel.trans hbel4)⟩
noncomputable def impl_textOf.f (l0:List Int) (x1:Int):Option (ByteArray) :=
  (if 0≤(w64 (x1-(l0.length:Int)))∧l0.length+(w64 (x1-(l0.length:Int))).toNat≤1073741824 then ((impl_intsText.f (l0++List.replicate (w64 (x1-(l0.length:Int))).toNat 0)).bind fun y8=>(some y8)) else none)
theorem impl_textOf_t (w0:World) (A0_:Option Addr) (p0_:Nat) (l0:List Int) (k0_:Chunk) (v0_:Own (Lay.int iS) 3 A0_ p0_ l0 k0_) (x1:Int) (hs0:Sat (blks [(1,k0_)]) w0 w0 [] [(1,k0_)]) (r:ByteArray) (H:impl_textOf.f l0 x1=some r) :
    Calls Tryz.prog 63 #[vL A0_ l0.length p0_,vI iS x1] w0 (Ret (fun v w=>v=vS r∧Sat (blks [(1,k0_)]) w0 w [] [])):=by
 have hs:=hs0
 unfold impl_textOf.f at H
 refine enter Tryz.func63 rfl Tryz.ntmps63 rfl fun a hk=>sr fun _ hK1=>mv hk rfl fun a hk=>nx hK1 <| sr fun _ hK2=>mv hk rfl fun a hk=>mv hk rfl fun a hk=>mv hk rfl fun a hk=>sle rfl hk rfl rfl rfl un22 fun a hk=>sv (vI iS (w64 (x1-(l0.length:Int)))) hk rfl rfl rfl fun a hk=>?_
 obtain ⟨c3,H⟩:=ite_no H
 refine sapn 1 (xs:=l0) (z:=0) hs rfl v0_ (by first | exact ⟨rfl,rfl⟩ | exact lz3) rfl hk rfl rfl rfl rfl rfl un22 un3 mk3 rfl rfl rfl c3 fun A4 p5 k6 w a hk o7 hs=>?_
 obtain ⟨y8,h9,H⟩:=bind_some H
 refine sc rfl en85 hk rfl rfl rfl (impl_intsText_t _ A4 p5 (l0++List.replicate (w64 (x1-(l0.length:Int))).toNat 0) _ o7.view (hs.hasG (k:=1) rfl) _ h9) ?_
 rintro _ w ⟨rfl,hG⟩ a hk
 have hs:=hs.call0 hG
 refine mv hk rfl fun a hk=>nx hK2 <| wp_ret ?_
 obtain rfl:=osi H
 exact fin hk _ [(vS y8)] rfl ⟨rfl,trivial⟩ ⟨rfl,(hs.pick [] rfl).dnil⟩
noncomputable def impl_stateText.s0 (l1:List S_Result) (u46:List Int) (u45:Int):Option (((List Int)×Int) ⊕ Ex ((List Int)) (ByteArray)) :=
  (bif (decide (u45<(l1.length:Int))) then (if 0≤u45∧u45<(l1.length:Int) then (if u46.length+([(l1.getD u45.toNat z_Result).Code,(((l1.getD u45.toNat z_Result).Values).length:Int)]).length≤1073741824 then (if (u46++([(l1.getD u45.toNat z_Result).Code,(((l1.getD u45.toNat z_Result).Values).length:Int)])).length+((l1.getD u45.toNat z_Result).Values).length≤1073741824 then (some (.inl (((u46++([(l1.getD u45.toNat z_Result).Code,(((l1.getD u45.toNat z_Result).Values).length:Int)]))++((l1.getD u45.toNat z_Result).Values)),(w64 (u45+1))))) else none) else none) else none) else (some (.inr (.out u46))))
noncomputable def impl_stateText.f (x0:S_Enc) (l1:List S_Result):Option (ByteArray) :=
  ((slices_Clone_int_int.f x0.Oram.Pos).bind fun y5=>((impl_blocksInts.f x0.Oram.Stash).bind fun y11=>(if y5.length+y11.length≤1073741824 then (if (y5++y11).length+x0.Keys.length≤1073741824 then (if ((y5++y11)++x0.Keys).length+([(l1.length:Int)]).length≤1073741824 then ((loopO (fun s=>impl_stateText.s0 l1 s.1 s.2) ((((y5++y11)++x0.Keys)++([(l1.length:Int)])),0)).bind fun o=>match o with | .out u51=>((impl_textOf.f u51 140).bind fun y93=>(some y93)) | .ret r=>(some r)) else none) else none) else none)))
theorem impl_stateText_t (w0:World) (x0:S_Enc) (A0_0:Option Addr) (p0_0:Nat) (k0_0:Chunk) (v0_0:View (Lay.int iS) A0_0 p0_0 x0.Keys k0_0) (w0_0:Has w0 k0_0) (A0_1:Option Addr) (p0_1:Nat) (k0_1:Chunk) (v0_1:View (Lay.int iS) A0_1 p0_1 x0.Oram.Pos k0_1) (w0_1:Has w0 k0_1) (A0_2:Option Addr) (p0_2:Nat) (k0_2:Chunk) (v0_2:View L_Block A0_2 p0_2 x0.Oram.Stash k0_2) (w0_2:Has w0 k0_2) (A0_3:Option Addr) (p0_3:Nat) (k0_3:Chunk) (v0_3:View (Lay.sl L_Block 100) A0_3 p0_3 x0.Oram.Buckets k0_3) (w0_3:Has w0 k0_3) (A1_:Option Addr) (p1_:Nat) (l1:List S_Result) (k1_:Chunk) (v1_:View L_impl_Result A1_ p1_ l1 k1_) (w1_:Has w0 k1_) (r:ByteArray) (H:impl_stateText.f x0 l1=some r) :
    Calls Tryz.prog 36 #[.agg #[vL A0_0 x0.Keys.length p0_0,vL A0_1 x0.Oram.Pos.length p0_1,vL A0_2 x0.Oram.Stash.length p0_2,vL A0_3 x0.Oram.Buckets.length p0_3],vL A1_ l1.length p1_] w0 (Ret (fun v w=>v=vS r∧Sat [] w0 w [] [])):=by
 have hs:=sat0 w0 [(1,k0_0),(2,k0_1),(3,k0_2),(4,k0_3),(5,k1_)] (by simp only [List.mem_cons,List.not_mem_nil,or_false];rintro x (rfl | rfl | rfl | rfl | rfl) <;> assumption)
 unfold impl_stateText.f at H
 refine enter Tryz.func36 rfl Tryz.ntmps36 rfl fun a hk=>sr fun _ hK1=>sbx 6 hs rfl hk rfl rfl rfl rfl fun b2 w a hk hs=>mv hk rfl fun a hk=>nx hK1 <| sq fun _ hK3=>wp_region_tree (.q 0 (.q 1 (.q 2 (.q 4 (.q 5 (.q 6 (.alt 3 (.alt 7 (.alt 8 (.last 9) .stop) .stop) .stop))))))) mo (by kernel_rfl) (hs.pick [(6,6)] rfl) fun _=>?_
 have hs:=hs.drew
 refine tqst _ hk rfl rfl rfl rfl (fun w hs=>sf ⟨b2,1,none⟩ rfl hk rfl rfl rfl fd47_1 rfl fun a hk=>qe hk) fun a hk=>tqst _ hk rfl rfl rfl rfl (fun w hs=>sf ⟨b2,1,none⟩ rfl hk rfl rfl rfl fd45_0 rfl fun a hk=>qe hk) fun a hk=>tqst _ hk rfl rfl rfl rfl (fun w hs=>sl rfl hk rfl rfl rfl ag22 (box_cell hs (k:=6) rfl rfl) fun a hk=>qe hk) fun a hk=>tqst _ hk rfl rfl rfl rfl (fun w hs=>sf ⟨b2,1,none⟩ rfl hk rfl rfl rfl fd47_1 rfl fun a hk=>qe hk) fun a hk=>tqst _ hk rfl rfl rfl rfl (fun w hs=>sf ⟨b2,2,none⟩ rfl hk rfl rfl rfl fd45_1 rfl fun a hk=>qe hk) fun a hk=>tqst _ hk rfl rfl rfl rfl (fun w hs=>sl rfl hk rfl rfl rfl ag42 (box_cell hs (k:=6) rfl rfl) fun a hk=>qe hk) fun a hk=>tss hs hk rfl rfl fun _ hK_r4_3 w hs=>?_
 obtain ⟨y5,h6,H⟩:=bind_some H
 refine sc rfl en59 hk rfl rfl rfl (slices_Clone_int_int_t _ A0_1 p0_1 x0.Oram.Pos _ v0_1 (hs.hasD (k:=2) rfl) _ h6) ?_
 rintro _ w ⟨A7,p8,k9,rfl,o10,hG⟩ a hk
 have hs:=hs.call0k hG [8] rfl
 refine se (hs.pick [(6,6)] rfl) hk (hK_r4_3 _ _ ?_)
 refine tss hs hk rfl rfl fun _ hK_r4_7 w hs=>?_
 obtain ⟨y11,h12,H⟩:=bind_some H
 refine sc rfl en62 hk rfl rfl rfl (impl_blocksInts_t _ A0_2 p0_2 x0.Oram.Stash _ v0_2 (hs.hasD (k:=3) rfl) _ h12) ?_
 rintro _ w ⟨A13,p14,k15,rfl,o16,hG⟩ a hk
 have hs:=hs.call0k hG [9] rfl
 refine se (hs.pick [(6,6)] rfl) hk (hK_r4_7 _ _ ?_)
 refine tss hs hk rfl rfl fun _ hK_r4_8 w hs=>?_
 obtain ⟨c17,H⟩:=ite_no H
 refine sap 8 (xs:=y5) (ys:=y11) (flat_flat:((Lay.int iS)).Flat) hs rfl o10 o16.view (hs.hasG (k:=9) rfl) rfl hk rfl rfl rfl rfl rfl rfl un22 mk3 rfl rfl rfl c17 fun A18 p19 k20 w a hk o21 hs=>se (hs.pick [(6,6)] rfl) hk (hK_r4_8 _ _ ?_)
 refine tlst hk rfl rfl fun K_r4_9 hK_r4_9 w hF=>?_
 have hs:=hs.f hF
 refine mv hk rfl fun a hk=>se trivial hk (hK_r4_9 _ _ fun w hF=>?_)
 have hs:=hs.f hF
 refine hK3 _ _ <| sr fun _ hK22=>mv hk rfl fun a hk=>sf ⟨b2,0,none⟩ rfl hk rfl rfl rfl fd47_0 rfl fun a hk=>sl rfl hk rfl rfl rfl ag22 (box_cell hs (k:=6) rfl rfl) fun a hk=>?_
 obtain ⟨c23,H⟩:=ite_no H
 refine sap 8 (xs:=(y5++y11)) (ys:=x0.Keys) (flat_flat:((Lay.int iS)).Flat) hs rfl o21 v0_0 (hs.hasD (k:=1) rfl) rfl hk rfl rfl rfl rfl rfl rfl un22 mk3 rfl rfl rfl c23 fun A24 p25 k26 w a hk o27 hs=>mv hk rfl fun a hk=>nx hK22 <| sr fun _ hK28=>mv hk rfl fun a hk=>mv hk rfl fun a hk=>sle rfl hk rfl rfl rfl un59 fun a hk=>sbs (L:=(Lay.int iS)) (pv:=[(0,(vI iS (l1.length:Int)))]) (xs:=[(l1.length:Int)]) (ess:=[[vI iS (l1.length:Int)]]) 10 hs rfl hk rfl rfl rfl un22 (bs3_9 (l1.length:Int)) (AllOwn.cons0 ⟨rfl,rfl⟩ AllOwn.nil) rfl rfl rfl fun b29 k30 w a hk o31 hs=>?_
 obtain ⟨c32,H⟩:=ite_no H
 refine sap 8 (xs:=((y5++y11)++x0.Keys)) (ys:=[(l1.length:Int)]) (flat_flat:((Lay.int iS)).Flat) hs rfl o27 o31.view (hs.hasG (k:=10) rfl) rfl hk rfl rfl rfl rfl rfl rfl un22 mk3 rfl rfl rfl c32 fun A33 p34 k35 w a hk o36 hs=>mv hk rfl fun a hk=>nx hK28 <| sq fun _ hK37=>sr fun _ hK38=>mv hk rfl fun a hk=>sle rfl hk rfl rfl rfl un59 fun a hk=>mv hk rfl fun a hk=>nx hK38 ?_
 obtain ⟨o56,h57,HL58⟩:=bind_some H
 clear H
 obtain ⟨R59,hR59⟩:=nm fun a w=>∃ (u51:List Int) (A54:Option Addr) (p55:Nat) (k52:Chunk),o56 = .out u51∧Kn [(5,(vL A54 u51.length p55))] 46 a∧Sat [] w0 w [(1,k0_0),(2,k0_1),(3,k0_2),(4,k0_3),(5,k1_)] [(8,k52)]∧Own (Lay.int iS) 3 A54 p55 u51 k52
 refine wp_cutq R59 ?_ ?_
 ·refine wp_block ?_
  obtain ⟨fu61,h57⟩:=loopO_some h57
  obtain ⟨I60,hI60⟩:=nm fun fu a w=>∃ (u46:List Int) (u45:Int) (A49:Option Addr) (p50:Nat) (k47:Chunk),loopN (fun s=>impl_stateText.s0 l1 s.1 s.2) fu (u46,u45)=some o56∧Kn [(5,(vL A49 u46.length p50)),(26,(vL A1_ l1.length p1_)),(27,(vI iS (l1.length:Int))),(28,(vI iS u45))] 46 a∧Sat [] w0 w [(1,k0_0),(2,k0_1),(3,k0_2),(4,k0_3),(5,k1_)] [(8,k47)]∧Own (Lay.int iS) 3 A49 p50 u46 k47
  refine wp_loop_ghost I60 fu61 ?_ ?_
  ·rw [hI60]
   exact ⟨_,_,A33,p34,_,h57,(hk.al rfl),(hs.pick [(8,8)] rfl),o36⟩
  clear h57 hk hs
  intro fu61 a w hI0
  rw [hI60] at hI0
  obtain ⟨u46,u45,A49,p50,k47,hi,hk,hs,o48⟩:=hI0
  obtain ⟨x62,H,h63⟩:=loop_round hi
  try dsimp only at H
  unfold impl_stateText.s0 at H
  refine sr fun _ hK64=>sv (.bool (decide (u45<(l1.length:Int)))) hk rfl rfl rfl fun a hk=>nx hK64 <| sq fun _ hK65=>?_
  rcases cond_some H with ⟨c66,H⟩ | ⟨c66,H⟩
  ·have hk:=hk.lit 29 c66 rfl
   refine cnd_true hk rfl rfl <| wp_skip <| hK65 _ _ <| sq fun _ hK67=>wp_block ?_
   refine sr fun _ hK68=>?_
   obtain ⟨c69,H⟩:=ite_no H
   obtain ⟨b70,q71,hAc69⟩:=(v1_).some_ u45 c69.1 c69.2
   refine si rfl hk rfl rfl rfl rfl un59 sz91 c69.1 c69.2 hAc69 fun a hk=>?_
   obtain ⟨_,⟨_,_,rfl,rfl,⟨_,rfl,A73,p74,rfl,v75⟩⟩,e72⟩:=(v1_).at_ z_Result u45 c69.1 c69.2
   refine sln [vI iS ((l1.getD u45.toNat z_Result).Code),vL A73 ((l1.getD u45.toNat z_Result).Values).length p74] rfl hk rfl rfl rfl ag91 sz91 (cells_at e72 (hs.hasD (k:=5) rfl)) fun a hk=>salx 12 hs rfl hk rfl rfl ze91 rfl fun b76 w a hk hs=>ssw 12 hs rfl rfl hk rfl rfl rfl rfl sz91 (by simp [Value.oneCell']) rfl fun w a hk hs=>nx hK68 ?_
   have hs:=hs.pick [(8,8),(12,12)] rfl
   refine wp_region_tree (.q 0 (.q 1 (.q 2 (.q 3 (.q 4 (.q 5 (.q 8 (.q 9 (.alt 6 (.alt 7 (.alt 10 (.last 11) .stop) .stop) .stop))))))))) mo (by kernel_rfl) (hs.pick [(12,12)] rfl) fun _=>?_
   have hs:=hs.drew
   refine tqm hk rfl fun a hk=>tqst _ hk rfl rfl rfl rfl (fun w hs=>sf ⟨b76,0,none⟩ rfl hk rfl rfl rfl fd91_0 rfl fun a hk=>qe hk) fun a hk=>tqst _ hk rfl rfl rfl rfl (fun w hs=>sl rfl hk rfl rfl rfl ag3 (box_cell hs (k:=12) rfl rfl) fun a hk=>qe hk) fun a hk=>tqst _ hk rfl rfl rfl rfl (fun w hs=>sf ⟨b76,1,none⟩ rfl hk rfl rfl rfl fd91_1 rfl fun a hk=>qe hk) fun a hk=>tqst _ hk rfl rfl rfl rfl (fun w hs=>sl rfl hk rfl rfl rfl ag22 (box_cell hs (k:=12) rfl rfl) fun a hk=>qe hk) fun a hk=>tqst _ hk rfl rfl rfl rfl (fun w hs=>sle rfl hk rfl rfl rfl un22 fun a hk=>qe hk) fun a hk=>tqst _ hk rfl rfl rfl rfl (fun w hs=>sf ⟨b76,1,none⟩ rfl hk rfl rfl rfl fd91_1 rfl fun a hk=>qe hk) fun a hk=>tqst _ hk rfl rfl rfl rfl (fun w hs=>sl rfl hk rfl rfl rfl ag22 (box_cell hs (k:=12) rfl rfl) fun a hk=>qe hk) fun a hk=>tss hs hk rfl rfl fun _ hK_r77_6 w hs=>sbs (L:=(Lay.int iS)) (pv:=[(0,(vI iS ((l1.getD u45.toNat z_Result).Code))),(1,(vI iS (((l1.getD u45.toNat z_Result).Values).length:Int)))]) (xs:=[(l1.getD u45.toNat z_Result).Code,(((l1.getD u45.toNat z_Result).Values).length:Int)]) (ess:=[[vI iS ((l1.getD u45.toNat z_Result).Code)],[vI iS (((l1.getD u45.toNat z_Result).Values).length:Int)]]) 14 hs rfl hk rfl rfl rfl un22 (bs3_11 ((l1.getD u45.toNat z_Result).Code) (((l1.getD u45.toNat z_Result).Values).length:Int)) (AllOwn.cons0 ⟨rfl,rfl⟩ (AllOwn.cons0 ⟨rfl,rfl⟩ AllOwn.nil)) rfl rfl rfl fun b78 k79 w a hk o80 hs=>se (hs.pick [(12,12)] rfl) hk (hK_r77_6 _ _ ?_)
   refine tss hs hk rfl rfl fun _ hK_r77_7 w hs=>?_
   obtain ⟨c81,H⟩:=ite_no H
   refine sap 8 (xs:=u46) (ys:=[(l1.getD u45.toNat z_Result).Code,(((l1.getD u45.toNat z_Result).Values).length:Int)]) (flat_flat:((Lay.int iS)).Flat) hs rfl o48 o80.view (hs.hasG (k:=14) rfl) rfl hk rfl rfl rfl rfl rfl rfl un22 mk3 rfl rfl rfl c81 fun A82 p83 k84 w a hk o85 hs=>se (hs.pick [(12,12)] rfl) hk (hK_r77_7 _ _ ?_)
   refine tss hs hk rfl rfl fun _ hK_r77_10 w hs=>?_
   obtain ⟨c86,H⟩:=ite_no H
   refine sap 8 (xs:=(u46++([(l1.getD u45.toNat z_Result).Code,(((l1.getD u45.toNat z_Result).Values).length:Int)]))) (ys:=(l1.getD u45.toNat z_Result).Values) (flat_flat:((Lay.int iS)).Flat) hs rfl o85 v75 (hs.hasD (k:=5) rfl) rfl hk rfl rfl rfl rfl rfl rfl un22 mk3 rfl rfl rfl c86 fun A87 p88 k89 w a hk o90 hs=>se (hs.pick [(12,12)] rfl) hk (hK_r77_10 _ _ ?_)
   refine tlst hk rfl rfl fun K_r77_11 hK_r77_11 w hF=>?_
   have hs:=hs.f hF
   refine mv hk rfl fun a hk=>se trivial hk (hK_r77_11 _ _ fun w hF=>?_)
   have hs:=hs.f hF
   refine hK67 _ _ ?_
   apply wp_region_lit
   refine sv (vI iS (w64 (u45+1))) hk rfl rfl rfl fun a hk=>mv hk rfl fun a hk=>?_
   show wpList _ _ _ [] _ _
   refine wpList_nil ?_
   obtain rfl:=osi H
   obtain ⟨m91,hmm91,h63⟩:=h63
   show ∃ n',n'<_∧I60 n' _ _
   refine ⟨m91,hmm91,?_⟩
   rw [hI60]
   exact ⟨_,_,A87,p88,_,h63,(hk.al rfl),(hs.pick [(8,8)] rfl),o90⟩
  have hk:=hk.lit 29 c66 rfl
  refine cnd_false hk rfl rfl <| wp_exit ?_
  obtain rfl:=osi H
  show R59 _ _
  rw [hR59]
  exact ⟨_,A49,p50,_,h63.symm,(hk.al rfl),(hs.pick [(8,8)] rfl),o48⟩
 intro a w hR0
 rw [hR59] at hR0
 obtain ⟨u51,A54,p55,k52,rfl,hk,hs,o53⟩:=hR0
 have H:=HL58
 try dsimp only at H
 refine hK37 _ _ <| sr fun _ hK92=>mv hk rfl fun a hk=>?_
 obtain ⟨y93,h94,H⟩:=bind_some H
 refine sc rfl en63 hk rfl rfl rfl (impl_textOf_t _ A54 p55 u51 _ o53 140 ((hs.hand [(1,8)] rfl).dpick [] rfl) _ h94) ?_
 rintro _ w ⟨rfl,hG⟩ a hk
 have hs:=hs.back [(1,8)] rfl hG [] rfl
 refine mv hk rfl fun a hk=>nx hK92 <| wp_ret ?_
 obtain rfl:=osi H
 exact fin hk _ [(vS y93)] rfl ⟨rfl,trivial⟩ ⟨rfl,(hs.pick [] rfl).dnil⟩
noncomputable def impl_bucketText.f (l0:List S_Block):Option (ByteArray) :=
  ((impl_blocksInts.f l0).bind fun y3=>((impl_textOf.f y3 7).bind fun y9=>(some y9)))
theorem impl_bucketText_t (w0:World) (A0_:Option Addr) (p0_:Nat) (l0:List S_Block) (k0_:Chunk) (v0_:View L_Block A0_ p0_ l0 k0_) (w0_:Has w0 k0_) (r:ByteArray) (H:impl_bucketText.f l0=some r) :
    Calls Tryz.prog 37 #[vL A0_ l0.length p0_] w0 (Ret (fun v w=>v=vS r∧Sat [] w0 w [] [])):=by
 have hs:=sat0 w0 [(1,k0_)] (by simp only [List.mem_cons,List.not_mem_nil,or_false];rintro x (rfl) <;> assumption)
 unfold impl_bucketText.f at H
 refine enter Tryz.func37 rfl Tryz.ntmps37 rfl fun a hk=>sr fun _ hK1=>mv hk rfl fun a hk=>nx hK1 <| sr fun _ hK2=>mv hk rfl fun a hk=>?_
 obtain ⟨y3,h4,H⟩:=bind_some H
 refine sc rfl en62 hk rfl rfl rfl (impl_blocksInts_t _ A0_ p0_ l0 _ v0_ (hs.hasD (k:=1) rfl) _ h4) ?_
 rintro _ w ⟨A5,p6,k7,rfl,o8,hG⟩ a hk
 have hs:=hs.call0k hG [2] rfl
 obtain ⟨y9,h10,H⟩:=bind_some H
 refine sc rfl en63 hk rfl rfl rfl (impl_textOf_t _ A5 p6 y3 _ o8 7 ((hs.hand [(1,2)] rfl).dpick [] rfl) _ h10) ?_
 rintro _ w ⟨rfl,hG⟩ a hk
 have hs:=hs.back [(1,2)] rfl hG [] rfl
 refine mv hk rfl fun a hk=>nx hK2 <| wp_ret ?_
 obtain rfl:=osi H
 exact fin hk _ [(vS y9)] rfl ⟨rfl,trivial⟩ ⟨rfl,(hs.pick [] rfl).dnil⟩
noncomputable def impl_sideSectors.s0 (x0:ByteArray) (x1:Int) (x2:S_Enc) (x4:Int) (u21:List ByteArray) (u20:Int):Option (((List ByteArray)×Int) ⊕ Ex ((List ByteArray)) ((List ByteArray))) :=
  (bif (decide (u20<(x2.Oram.Buckets.length:Int))) then (if 0≤u20∧u20<(x2.Oram.Buckets.length:Int) then ((impl_bucketText.f (x2.Oram.Buckets.getD u20.toNat [])).bind fun y51=>((impl_sealed.f x0 2 (w64 ((w64 ((w64 (16*x1))+1))+u20)) x4 y51).bind fun y53=>(if u21.length+([y53]).length≤1073741824 then (some (.inl ((u21++([y53])),(w64 (u20+1))))) else none))) else none) else (some (.inr (.out u21))))
noncomputable def impl_sideSectors.f (x0:ByteArray) (x1:Int) (x2:S_Enc) (l3:List S_Result) (x4:Int):Option ((List ByteArray)) :=
  ((impl_stateText.f x2 l3).bind fun y5=>((impl_sealed.f x0 1 (w64 (16*x1)) x4 y5).bind fun y7=>((loopO (fun s=>impl_sideSectors.s0 x0 x1 x2 x4 s.1 s.2) ([y7],0)).bind fun o=>match o with | .out u26=>(some u26) | .ret r=>(some r))))
theorem impl_sideSectors_t (w0:World) (x0:ByteArray) (x1:Int) (x2:S_Enc) (A2_0:Option Addr) (p2_0:Nat) (k2_0:Chunk) (v2_0:View (Lay.int iS) A2_0 p2_0 x2.Keys k2_0) (w2_0:Has w0 k2_0) (A2_1:Option Addr) (p2_1:Nat) (k2_1:Chunk) (v2_1:View (Lay.int iS) A2_1 p2_1 x2.Oram.Pos k2_1) (w2_1:Has w0 k2_1) (A2_2:Option Addr) (p2_2:Nat) (k2_2:Chunk) (v2_2:View L_Block A2_2 p2_2 x2.Oram.Stash k2_2) (w2_2:Has w0 k2_2) (A2_3:Option Addr) (p2_3:Nat) (k2_3:Chunk) (v2_3:View (Lay.sl L_Block 100) A2_3 p2_3 x2.Oram.Buckets k2_3) (w2_3:Has w0 k2_3) (A3_:Option Addr) (p3_:Nat) (l3:List S_Result) (k3_:Chunk) (v3_:View L_impl_Result A3_ p3_ l3 k3_) (w3_:Has w0 k3_) (x4:Int) (r:(List ByteArray)) (H:impl_sideSectors.f x0 x1 x2 l3 x4=some r) :
    Calls Tryz.prog 17 #[vS x0,vI iS x1,.agg #[vL A2_0 x2.Keys.length p2_0,vL A2_1 x2.Oram.Pos.length p2_1,vL A2_2 x2.Oram.Stash.length p2_2,vL A2_3 x2.Oram.Buckets.length p2_3],vL A3_ l3.length p3_,vI iS x4] w0 (Ret (fun v w=>∃ (A0:Option Addr) (p0:Nat) (k0:Chunk),v=vL A0 r.length p0∧Own Lay.str 9 A0 p0 r k0∧Sat [] w0 w [] [(0,k0)])):=by
 have hs:=sat0 w0 [(1,k2_0),(2,k2_1),(3,k2_2),(4,k2_3),(5,k3_)] (by simp only [List.mem_cons,List.not_mem_nil,or_false];rintro x (rfl | rfl | rfl | rfl | rfl) <;> assumption)
 unfold impl_sideSectors.f at H
 refine enter Tryz.func17 rfl Tryz.ntmps17 rfl fun a hk=>sr fun _ hK1=>sbx 6 hs rfl hk rfl rfl rfl rfl fun b2 w a hk hs=>mv hk rfl fun a hk=>nx hK1 <| sr fun _ hK3=>mv hk rfl fun a hk=>sv (vI iS (w64 (16*x1))) hk rfl rfl rfl fun a hk=>mv hk rfl fun a hk=>nx hK3 <| sr fun _ hK4=>mv hk rfl fun a hk=>mv hk rfl fun a hk=>mv hk rfl fun a hk=>sln [vL A2_0 x2.Keys.length p2_0,vL A2_1 x2.Oram.Pos.length p2_1,vL A2_2 x2.Oram.Stash.length p2_2,vL A2_3 x2.Oram.Buckets.length p2_3] rfl hk rfl rfl rfl ag47 sz47 (box_cells hs (k:=6) rfl) fun a hk=>mv hk rfl fun a hk=>?_
 obtain ⟨y5,h6,H⟩:=bind_some H
 refine sc rfl en36 hk rfl rfl rfl (impl_stateText_t _ x2 A2_0 p2_0 _ v2_0 (hs.hasD (k:=1) rfl) A2_1 p2_1 _ v2_1 (hs.hasD (k:=2) rfl) A2_2 p2_2 _ v2_2 (hs.hasD (k:=3) rfl) A2_3 p2_3 _ v2_3 (hs.hasD (k:=4) rfl) A3_ p3_ l3 _ v3_ (hs.hasD (k:=5) rfl) _ h6) ?_
 rintro _ w ⟨rfl,hG⟩ a hk
 have hs:=hs.call0 hG
 obtain ⟨y7,h8,H⟩:=bind_some H
 refine sc rfl en35 hk rfl rfl rfl (impl_sealed_t _ x0 1 (w64 (16*x1)) x4 y5 _ h8) ?_
 rintro _ w ⟨rfl,hG⟩ a hk
 have hs:=hs.call0 hG
 refine sbs (L:=Lay.str) (pv:=[(0,(vS y7))]) (xs:=[y7]) (ess:=[[vS y7]]) 7 hs rfl hk rfl rfl rfl un25 (bs9_12 y7) (AllOwn.cons0 ⟨rfl,rfl⟩ AllOwn.nil) rfl rfl rfl fun b9 k10 w a hk o11 hs=>mv hk rfl fun a hk=>nx hK4 <| sq fun _ hK12=>sr fun _ hK13=>sf ⟨b2,1,none⟩ rfl hk rfl rfl rfl fd47_1 rfl fun a hk=>sf ⟨b2,3,none⟩ rfl hk rfl rfl rfl fd45_2 rfl fun a hk=>sl rfl hk rfl rfl rfl ag43 (box_cell hs (k:=6) rfl rfl) fun a hk=>sle rfl hk rfl rfl rfl un43 fun a hk=>mv hk rfl fun a hk=>nx hK13 ?_
 obtain ⟨o31,h32,HL33⟩:=bind_some H
 clear H
 obtain ⟨R34,hR34⟩:=nm fun a w=>∃ (u26:List ByteArray) (A29:Option Addr) (p30:Nat) (k27:Chunk),o31 = .out u26∧Kn [(12,(vL A29 u26.length p30))] 48 a∧Sat [] w0 w [(1,k2_0),(2,k2_1),(3,k2_2),(4,k2_3),(5,k3_)] [(7,k27)]∧Own Lay.str 9 A29 p30 u26 k27
 refine wp_cutq R34 ?_ ?_
 ·refine wp_block ?_
  obtain ⟨fu36,h32⟩:=loopO_some h32
  obtain ⟨I35,hI35⟩:=nm fun fu a w=>∃ (u21:List ByteArray) (u20:Int) (A24:Option Addr) (p25:Nat) (k22:Chunk),loopN (fun s=>impl_sideSectors.s0 x0 x1 x2 x4 s.1 s.2) fu (u21,u20)=some o31∧Kn [(0,(vS x0)),(4,(vI iS x4)),(11,(vI iS (w64 (16*x1)))),(12,(vL A24 u21.length p25)),(27,(vL A2_3 x2.Oram.Buckets.length p2_3)),(28,(vI iS (x2.Oram.Buckets.length:Int))),(29,(vI iS u20))] 48 a∧Sat [] w0 w [(1,k2_0),(2,k2_1),(3,k2_2),(4,k2_3),(5,k3_)] [(7,k22)]∧Own Lay.str 9 A24 p25 u21 k22
  refine wp_loop_ghost I35 fu36 ?_ ?_
  ·rw [hI35]
   exact ⟨_,_,(some ⟨b9,0,none⟩),1,_,h32,(hk.al rfl),(hs.pick [(7,7)] rfl),o11⟩
  clear h32 hk hs
  intro fu36 a w hI0
  rw [hI35] at hI0
  obtain ⟨u21,u20,A24,p25,k22,hi,hk,hs,o23⟩:=hI0
  obtain ⟨x37,H,h38⟩:=loop_round hi
  try dsimp only at H
  unfold impl_sideSectors.s0 at H
  refine sr fun _ hK39=>sv (.bool (decide (u20<(x2.Oram.Buckets.length:Int)))) hk rfl rfl rfl fun a hk=>nx hK39 <| sq fun _ hK40=>?_
  rcases cond_some H with ⟨c41,H⟩ | ⟨c41,H⟩
  ·have hk:=hk.lit 30 c41 rfl
   refine cnd_true hk rfl rfl <| wp_skip <| hK40 _ _ <| sq fun _ hK42=>wp_block ?_
   refine sr fun _ hK43=>mv hk rfl fun a hk=>?_
   obtain ⟨c44,H⟩:=ite_no H
   obtain ⟨b45,q46,hAc44⟩:=(v2_3).some_ u20 c44.1 c44.2
   refine si rfl hk rfl rfl rfl rfl un43 sz42 c44.1 c44.2 hAc44 fun a hk=>?_
   obtain ⟨_,⟨_,rfl,A48,p49,rfl,v50⟩,e47⟩:=(v2_3).at_ [] u20 c44.1 c44.2
   refine sl (v:=(vL A48 (x2.Oram.Buckets.getD u20.toNat []).length p49)) rfl hk rfl rfl rfl ag42 ((e47 0 _ rfl).cell (hs.hasD (k:=4) rfl)) fun a hk=>mv hk rfl fun a hk=>mv hk rfl fun a hk=>nx hK43 ?_
   apply wp_region_lit
   refine mv hk rfl fun a hk=>mv hk rfl fun a hk=>mv hk rfl fun a hk=>sv (vI iS (w64 ((w64 (16*x1))+1))) hk rfl rfl rfl fun a hk=>mv hk rfl fun a hk=>sv (vI iS (w64 ((w64 ((w64 (16*x1))+1))+u20))) hk rfl rfl rfl fun a hk=>mv hk rfl fun a hk=>mv hk rfl fun a hk=>?_
   obtain ⟨y51,h52,H⟩:=bind_some H
   refine sc rfl en37 hk rfl rfl rfl (impl_bucketText_t _ A48 p49 (x2.Oram.Buckets.getD u20.toNat []) _ v50 (hs.hasD (k:=4) rfl) _ h52) ?_
   rintro _ w ⟨rfl,hG⟩ a hk
   have hs:=hs.call0 hG
   obtain ⟨y53,h54,H⟩:=bind_some H
   refine sc rfl en35 hk rfl rfl rfl (impl_sealed_t _ x0 2 (w64 ((w64 ((w64 (16*x1))+1))+u20)) x4 y51 _ h54) ?_
   rintro _ w ⟨rfl,hG⟩ a hk
   have hs:=hs.call0 hG
   refine sbs (L:=Lay.str) (pv:=[(0,(vS y53))]) (xs:=[y53]) (ess:=[[vS y53]]) 9 hs rfl hk rfl rfl rfl un25 (bs9_12 y53) (AllOwn.cons0 ⟨rfl,rfl⟩ AllOwn.nil) rfl rfl rfl fun b55 k56 w a hk o57 hs=>?_
   obtain ⟨c58,H⟩:=ite_no H
   refine sap 7 (xs:=u21) (ys:=[y53]) (flat_flat:(Lay.str).Flat) hs rfl o23 o57.view (hs.hasG (k:=9) rfl) rfl hk rfl rfl rfl rfl rfl rfl un25 mk9 rfl rfl rfl c58 fun A59 p60 k61 w a hk o62 hs=>mv hk rfl fun a hk=>nx hK42 ?_
   have hs:=hs.pick [(7,7)] rfl
   apply wp_region_lit
   refine sv (vI iS (w64 (u20+1))) hk rfl rfl rfl fun a hk=>mv hk rfl fun a hk=>?_
   show wpList _ _ _ [] _ _
   refine wpList_nil ?_
   obtain rfl:=osi H
   obtain ⟨m63,hmm63,h38⟩:=h38
   show ∃ n',n'<_∧I35 n' _ _
   refine ⟨m63,hmm63,?_⟩
   rw [hI35]
   exact ⟨_,_,A59,p60,_,h38,(hk.al rfl),(hs.pick [(7,7)] rfl),o62⟩
  have hk:=hk.lit 30 c41 rfl
  refine cnd_false hk rfl rfl <| wp_exit ?_
  obtain rfl:=osi H
  show R34 _ _
  rw [hR34]
  exact ⟨_,A24,p25,_,h38.symm,(hk.al rfl),(hs.pick [(7,7)] rfl),o23⟩
 intro a w hR0
 rw [hR34] at hR0
 obtain ⟨u26,A29,p30,k27,rfl,hk,hs,o28⟩:=hR0
 have H:=HL33
 try dsimp only at H
 refine hK12 _ _ <| sr fun _ hK64=>mv hk rfl fun a hk=>mv hk rfl fun a hk=>nx hK64 <| wp_ret ?_
 obtain rfl:=osi H
 exact fin hk _ [(vL A29 u26.length p30)] rfl ⟨rfl,trivial⟩ ⟨A29,p30,_,rfl,o28,(hs.pick [(0,7)] rfl).dnil⟩
noncomputable def impl_NewHash.f  : Option (S_Hash) :=
  (some (⟨1779033703,3144134277,1013904242,2773480762,1359893119,2600822924,528734635,1541459225,ByteArray.empty,0⟩:S_Hash))
theorem impl_NewHash_t (w0:World)  (r:S_Hash) (H:impl_NewHash.f  = some r) :
    Calls Tryz.prog 64 #[] w0 (Ret (fun v w=>v = .agg #[vI iS r.H0,vI iS r.H1,vI iS r.H2,vI iS r.H3,vI iS r.H4,vI iS r.H5,vI iS r.H6,vI iS r.H7,vS r.Buf,vI iS r.N]∧Sat [] w0 w [] [])):=by
 have hs:=sat0 w0 [] (by simp)
 unfold impl_NewHash.f at H
 refine enter Tryz.func64 rfl Tryz.ntmps64 rfl fun a hk=>sr fun _ hK1=>salx 1 hs rfl hk rfl rfl ze79 rfl fun b2 w a hk hs=>nx hK1 <| sr fun _ hK3=>sbd (pv:=[(0,(vI iS 1779033703)),(1,(vI iS 3144134277)),(2,(vI iS 1013904242)),(3,(vI iS 2773480762)),(4,(vI iS 1359893119)),(5,(vI iS 2600822924)),(6,(vI iS 528734635)),(7,(vI iS 1541459225))]) rfl hk rfl rfl rfl (bd77_15 1779033703 3144134277 1013904242 2773480762 1359893119 2600822924 528734635 1541459225) fun a hk=>?_
 have lh4:([1779033703,3144134277,1013904242,2773480762,1359893119,2600822924,528734635,1541459225]:List Int).length=8:=rfl
 refine sbd (pv:=[(0,(.agg #[vI iS 1779033703,vI iS 3144134277,vI iS 1013904242,vI iS 2773480762,vI iS 1359893119,vI iS 2600822924,vI iS 528734635,vI iS 1541459225]))]) rfl hk rfl rfl rfl (bd79_16 1779033703 3144134277 1013904242 2773480762 1359893119 2600822924 528734635 1541459225) fun a hk=>ssw 1 hs rfl rfl hk rfl rfl rfl rfl sz79 (by simp [Value.oneCell']) rfl fun w a hk hs=>nx hK3 <| wp_ret ?_
 obtain rfl:=osi H
 exact fin hk _ [(.agg #[vI iS 1779033703,vI iS 3144134277,vI iS 1013904242,vI iS 2773480762,vI iS 1359893119,vI iS 2600822924,vI iS 528734635,vI iS 1541459225,vS ByteArray.empty,vI iS 0])] rfl ⟨⟨_,rfl,run_loadN ag79 sz79 (box_cells hs (k:=1) rfl)⟩,trivial⟩ ⟨rfl,(hs.pick [] rfl).dnil⟩
noncomputable def impl_constants.f  : Option ((List Int)) :=
  (some ([1116352408,1899447441,3049323471,3921009573,961987163,1508970993,2453635748,2870763221,3624381080,310598401,607225278,1426881987,1925078388,2162078206,2614888103,3248222580,3835390401,4022224774,264347078,604807628,770255983,1249150122,1555081692,1996064986,2554220882,2821834349,2952996808,3210313671,3336571891,3584528711,113926993,338241895,666307205,773529912,1294757372,1396182291,1695183700,1986661051,2177026350,2456956037,2730485921,2820302411,3259730800,3345764771,3516065817,3600352804,4094571909,275423344,430227734,506948616,659060556,883997877,958139571,1322822218,1537002063,1747873779,1955562222,2024104815,2227730452,2361852424,2428436474,2756734187,3204031479,3329325298]:List Int))
theorem impl_constants_t (w0:World)  (r:(List Int)) (H:impl_constants.f  = some r) :
    Calls Tryz.prog 86 #[] w0 (Ret (fun v w=>v=aggI .u32 r∧r.length=64∧Sat [] w0 w [] [])):=by
 have hs:=sat0 w0 [] (by simp)
 unfold impl_constants.f at H
 refine enter Tryz.func86 rfl Tryz.ntmps86 rfl fun a hk=>sr fun _ hK1=>sala 1 ((Lay.int iU)) (m:=64) (z:=0) (zc:=[vI iU 0]) hs rfl hk rfl rfl ze111 (by exact ⟨rfl,rfl⟩) rfl rfl rfl fun b2 k3 w a hk o4 hs=>?_
 have lh5:(List.replicate 64 (0:Int)).length=64:=List.length_replicate
 refine nx hK1 <| sr fun _ hK6=>sbd (pv:=[(0,(vI iU 1116352408)),(1,(vI iU 1899447441)),(2,(vI iU 3049323471)),(3,(vI iU 3921009573)),(4,(vI iU 961987163)),(5,(vI iU 1508970993)),(6,(vI iU 2453635748)),(7,(vI iU 2870763221)),(8,(vI iU 3624381080)),(9,(vI iU 310598401)),(10,(vI iU 607225278)),(11,(vI iU 1426881987)),(12,(vI iU 1925078388)),(13,(vI iU 2162078206)),(14,(vI iU 2614888103)),(15,(vI iU 3248222580)),(16,(vI iU 3835390401)),(17,(vI iU 4022224774)),(18,(vI iU 264347078)),(19,(vI iU 604807628)),(20,(vI iU 770255983)),(21,(vI iU 1249150122)),(22,(vI iU 1555081692)),(23,(vI iU 1996064986)),(24,(vI iU 2554220882)),(25,(vI iU 2821834349)),(26,(vI iU 2952996808)),(27,(vI iU 3210313671)),(28,(vI iU 3336571891)),(29,(vI iU 3584528711)),(30,(vI iU 113926993)),(31,(vI iU 338241895)),(32,(vI iU 666307205)),(33,(vI iU 773529912)),(34,(vI iU 1294757372)),(35,(vI iU 1396182291)),(36,(vI iU 1695183700)),(37,(vI iU 1986661051)),(38,(vI iU 2177026350)),(39,(vI iU 2456956037)),(40,(vI iU 2730485921)),(41,(vI iU 2820302411)),(42,(vI iU 3259730800)),(43,(vI iU 3345764771)),(44,(vI iU 3516065817)),(45,(vI iU 3600352804)),(46,(vI iU 4094571909)),(47,(vI iU 275423344)),(48,(vI iU 430227734)),(49,(vI iU 506948616)),(50,(vI iU 659060556)),(51,(vI iU 883997877)),(52,(vI iU 958139571)),(53,(vI iU 1322822218)),(54,(vI iU 1537002063)),(55,(vI iU 1747873779)),(56,(vI iU 1955562222)),(57,(vI iU 2024104815)),(58,(vI iU 2227730452)),(59,(vI iU 2361852424)),(60,(vI iU 2428436474)),(61,(vI iU 2756734187)),(62,(vI iU 3204031479)),(63,(vI iU 3329325298))]) rfl hk rfl rfl rfl (bd111_28 1116352408 1899447441 3049323471 3921009573 961987163 1508970993 2453635748 2870763221 3624381080 310598401 607225278 1426881987 1925078388 2162078206 2614888103 3248222580 3835390401 4022224774 264347078 604807628 770255983 1249150122 1555081692 1996064986 2554220882 2821834349 2952996808 3210313671 3336571891 3584528711 113926993 338241895 666307205 773529912 1294757372 1396182291 1695183700 1986661051 2177026350 2456956037 2730485921 2820302411 3259730800 3345764771 3516065817 3600352804 4094571909 275423344 430227734 506948616 659060556 883997877 958139571 1322822218 1537002063 1747873779 1955562222 2024104815 2227730452 2361852424 2428436474 2756734187 3204031479 3329325298) fun a hk=>?_
 have lh7:([1116352408,1899447441,3049323471,3921009573,961987163,1508970993,2453635748,2870763221,3624381080,310598401,607225278,1426881987,1925078388,2162078206,2614888103,3248222580,3835390401,4022224774,264347078,604807628,770255983,1249150122,1555081692,1996064986,2554220882,2821834349,2952996808,3210313671,3336571891,3584528711,113926993,338241895,666307205,773529912,1294757372,1396182291,1695183700,1986661051,2177026350,2456956037,2730485921,2820302411,3259730800,3345764771,3516065817,3600352804,4094571909,275423344,430227734,506948616,659060556,883997877,958139571,1322822218,1537002063,1747873779,1955562222,2024104815,2227730452,2361852424,2428436474,2756734187,3204031479,3329325298]:List Int).length=64:=rfl
 refine sswa 1 ([1116352408,1899447441,3049323471,3921009573,961987163,1508970993,2453635748,2870763221,3624381080,310598401,607225278,1426881987,1925078388,2162078206,2614888103,3248222580,3835390401,4022224774,264347078,604807628,770255983,1249150122,1555081692,1996064986,2554220882,2821834349,2952996808,3210313671,3336571891,3584528711,113926993,338241895,666307205,773529912,1294757372,1396182291,1695183700,1986661051,2177026350,2456956037,2730485921,2820302411,3259730800,3345764771,3516065817,3600352804,4094571909,275423344,430227734,506948616,659060556,883997877,958139571,1322822218,1537002063,1747873779,1955562222,2024104815,2227730452,2361852424,2428436474,2756734187,3204031479,3329325298]:List Int) hs rfl o4 lh5 lh7 rfl rfl hk rfl rfl rfl rfl sz111 fun k8 w a hk o9 hs=>nx hK6 <| wp_ret ?_
 obtain rfl:=osi H
 exact fin hk _ [(aggI .u32 ([1116352408,1899447441,3049323471,3921009573,961987163,1508970993,2453635748,2870763221,3624381080,310598401,607225278,1426881987,1925078388,2162078206,2614888103,3248222580,3835390401,4022224774,264347078,604807628,770255983,1249150122,1555081692,1996064986,2554220882,2821834349,2952996808,3210313671,3336571891,3584528711,113926993,338241895,666307205,773529912,1294757372,1396182291,1695183700,1986661051,2177026350,2456956037,2730485921,2820302411,3259730800,3345764771,3516065817,3600352804,4094571909,275423344,430227734,506948616,659060556,883997877,958139571,1322822218,1537002063,1747873779,1955562222,2024104815,2227730452,2361852424,2428436474,2756734187,3204031479,3329325298]:List Int))] rfl ⟨⟨_,rfl,run_loadA ag111 sz111 o9 lh7 hs (q:=1) rfl⟩,trivial⟩ ⟨rfl,lh7,(hs.pick [] rfl).dnil⟩
noncomputable def impl_turned.f (x0:Int) (x1:Int):Option (Int) :=
  ((math_bits_RotateLeft32.f x0 (w64 (0-x1))).bind fun y3=>(some y3))
theorem impl_turned_t (w0:World) (x0:Int) (x1:Int) (r:Int) (H:impl_turned.f x0 x1=some r) :
    Calls Tryz.prog 105 #[vI iU x0,vI iS x1] w0 (Ret (fun v w=>v=vI iU r∧Sat [] w0 w [] [])):=by
 have hs:=sat0 w0 [] (by simp)
 unfold impl_turned.f at H
 refine enter Tryz.func105 rfl Tryz.ntmps105 rfl fun a hk=>sr fun _ hK1=>mv hk rfl fun a hk=>nx hK1 <| sr fun _ hK2=>mv hk rfl fun a hk=>mv hk rfl fun a hk=>sv (vI iS (w64 (0-x1))) hk rfl rfl rfl fun a hk=>?_
 obtain ⟨y3,h4,H⟩:=bind_some H
 refine sc rfl en124 hk rfl rfl rfl (math_bits_RotateLeft32_t _ x0 (w64 (0-x1)) _ h4) ?_
 rintro _ w ⟨rfl,hG⟩ a hk
 have hs:=hs.call0 hG
 refine mv hk rfl fun a hk=>nx hK2 <| wp_ret ?_
 obtain rfl:=osi H
 exact fin hk _ [(vI iU y3)] rfl ⟨rfl,trivial⟩ ⟨rfl,(hs.pick [] rfl).dnil⟩
end Go.Proofs.YteklgnhfgdhdiaaGreat
