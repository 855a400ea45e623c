/- Further functions. -/
import Derived.Test.YteklgnhfgdhdiaaGreatGXInitn2
namespace Go.Proofs.YteklgnhfgdhdiaaGreat
open Go Go.Z Go.Proofs Go.MuLone Go.ChangeShapes Go.WideShapes Go.ChangeAt Go.RowKit
set_option linter.unusedVariables false
set_option linter.unusedSimpArgs false
set_option maxRecDepth 100000
set_option maxHeartbeats 0
open Go.IntKind renaming wrap → wR, i64 → iS, u32 → iU, u8 → iB
open Go.Value renaming int → vI, string → vS, slice → vL, pointer → vP
open BitVec renaming ofInt → bO
noncomputable def impl_Hash_block.s0 (x1:ByteArray) (u10:List Int) (u14:Int):Option (((List Int)×Int) ⊕ Ex ((List Int)) (Int×Int×Int×Int×Int×Int×Int×Int×ByteArray×Int)) :=
  (bif (decide (u14<16)) then (if 0≤(w64 (4*u14))∧(w64 (4*u14))<(x1.size:Int) then (if 0≤(w64 ((w64 (4*u14))+1))∧(w64 ((w64 (4*u14))+1))<(x1.size:Int) then (if 0≤(w64 ((w64 (4*u14))+2))∧(w64 ((w64 (4*u14))+2))<(x1.size:Int) then (if 0≤(w64 ((w64 (4*u14))+3))∧(w64 ((w64 (4*u14))+3))<(x1.size:Int) then (if 0≤u14∧u14<(64:Int) then (some (.inl ((u10.set u14.toNat (wR iU ((bO 32 (wR iU ((bO 32 (wR iU ((bO 32 (wR iU ((wR iU (byteAt x1 (w64 (4*u14))))*2 ^ 24)) ||| bO 32 (wR iU ((wR iU (byteAt x1 (w64 ((w64 (4*u14))+1))))*2 ^ 16))).toNat:Int)) ||| bO 32 (wR iU ((wR iU (byteAt x1 (w64 ((w64 (4*u14))+2))))*2 ^ 8))).toNat:Int)) ||| bO 32 (wR iU (byteAt x1 (w64 ((w64 (4*u14))+3))))).toNat:Int))),(w64 (u14+1))))) else none) else none) else none) else none) else none) else (some (.inr (.out u10))))
noncomputable def impl_Hash_block.s1  (u48:List Int) (u52:Int):Option (((List Int)×Int) ⊕ Ex ((List Int)) (Int×Int×Int×Int×Int×Int×Int×Int×ByteArray×Int)) :=
  (bif (decide (u52<64)) then (if 0≤(w64 (u52-15))∧(w64 (u52-15))<(64:Int) then (if 0≤(w64 (u52-2))∧(w64 (u52-2))<(64:Int) then (if 0≤(w64 (u52-16))∧(w64 (u52-16))<(64:Int) then ((impl_turned.f (u48.getD (w64 (u52-15)).toNat 0) 7).bind fun y84=>((impl_turned.f (u48.getD (w64 (u52-15)).toNat 0) 18).bind fun y86=>(if 0≤(w64 (u52-7))∧(w64 (u52-7))<(64:Int) then ((impl_turned.f (u48.getD (w64 (u52-2)).toNat 0) 17).bind fun y92=>((impl_turned.f (u48.getD (w64 (u52-2)).toNat 0) 19).bind fun y94=>(if 0≤u52∧u52<(64:Int) then (some (.inl ((u48.set u52.toNat (wR iU ((wR iU ((wR iU ((u48.getD (w64 (u52-16)).toNat 0)+(wR iU ((bO 32 (wR iU ((bO 32 y84 ^^^ bO 32 y86).toNat:Int)) ^^^ bO 32 (Int.fdiv (u48.getD (w64 (u52-15)).toNat 0) (2 ^ 3))).toNat:Int))))+(u48.getD (w64 (u52-7)).toNat 0)))+(wR iU ((bO 32 (wR iU ((bO 32 y92 ^^^ bO 32 y94).toNat:Int)) ^^^ bO 32 (Int.fdiv (u48.getD (w64 (u52-2)).toNat 0) (2 ^ 10))).toNat:Int))))),(w64 (u52+1))))) else none))) else none))) else none) else none) else none) else (some (.inr (.out u48))))
noncomputable def impl_Hash_block.s2 (x0:S_Hash) (u113:List Int) (u117:Int):Option (((List Int)×Int) ⊕ Ex ((List Int)) (Int×Int×Int×Int×Int×Int×Int×Int×ByteArray×Int)) :=
  (bif (decide (u117<8)) then (if 0≤u117∧u117<(8:Int) then (if 0≤u117∧u117<(8:Int) then (some (.inl ((u113.set u117.toNat (wR iU (([x0.H0,x0.H1,x0.H2,x0.H3,x0.H4,x0.H5,x0.H6,x0.H7]:List Int).getD u117.toNat 0))),(w64 (u117+1))))) else none) else none) else (some (.inr (.out u113))))
noncomputable def impl_Hash_block.s3 (l2:List Int) (u53:List Int) (u147:List Int) (u151:Int):Option (((List Int)×Int) ⊕ Ex ((List Int)) (Int×Int×Int×Int×Int×Int×Int×Int×ByteArray×Int)) :=
  (bif (decide (u151<64)) then (if 0≤(0:Int)∧(0:Int)<(8:Int) then (if 0≤(1:Int)∧(1:Int)<(8:Int) then (if 0≤(2:Int)∧(2:Int)<(8:Int) then (if 0≤(4:Int)∧(4:Int)<(8:Int) then (if 0≤(5:Int)∧(5:Int)<(8:Int) then (if 0≤(6:Int)∧(6:Int)<(8:Int) then (if 0≤(7:Int)∧(7:Int)<(8:Int) then ((impl_turned.f (u147.getD (4:Int).toNat 0) 6).bind fun y201=>((impl_turned.f (u147.getD (4:Int).toNat 0) 11).bind fun y203=>((impl_turned.f (u147.getD (4:Int).toNat 0) 25).bind fun y205=>(if 0≤u151∧u151<(64:Int) then (if 0≤u151∧u151<(64:Int) then ((impl_turned.f (u147.getD (0:Int).toNat 0) 2).bind fun y216=>((impl_turned.f (u147.getD (0:Int).toNat 0) 13).bind fun y218=>((impl_turned.f (u147.getD (0:Int).toNat 0) 22).bind fun y220=>(if 0≤(3:Int)∧(3:Int)<(8:Int) then (some (.inl (([(wR iU ((wR iU ((wR iU ((wR iU ((wR iU ((u147.getD (7:Int).toNat 0)+(wR iU ((bO 32 (wR iU ((bO 32 y201 ^^^ bO 32 y203).toNat:Int)) ^^^ bO 32 y205).toNat:Int))))+(wR iU ((bO 32 (wR iU ((bO 32 (u147.getD (4:Int).toNat 0) &&& bO 32 (u147.getD (5:Int).toNat 0)).toNat:Int)) ^^^ bO 32 (wR iU ((bO 32 (wR iU ((bO 32 4294967295 ^^^ bO 32 (u147.getD (4:Int).toNat 0)).toNat:Int)) &&& bO 32 (u147.getD (6:Int).toNat 0)).toNat:Int))).toNat:Int))))+(l2.getD u151.toNat 0)))+(u53.getD u151.toNat 0)))+(wR iU ((wR iU ((bO 32 (wR iU ((bO 32 y216 ^^^ bO 32 y218).toNat:Int)) ^^^ bO 32 y220).toNat:Int))+(wR iU ((bO 32 (wR iU ((bO 32 (wR iU ((bO 32 (u147.getD (0:Int).toNat 0) &&& bO 32 (u147.getD (1:Int).toNat 0)).toNat:Int)) ^^^ bO 32 (wR iU ((bO 32 (u147.getD (0:Int).toNat 0) &&& bO 32 (u147.getD (2:Int).toNat 0)).toNat:Int))).toNat:Int)) ^^^ bO 32 (wR iU ((bO 32 (u147.getD (1:Int).toNat 0) &&& bO 32 (u147.getD (2:Int).toNat 0)).toNat:Int))).toNat:Int)))))),(u147.getD (0:Int).toNat 0),(u147.getD (1:Int).toNat 0),(u147.getD (2:Int).toNat 0),(wR iU ((u147.getD (3:Int).toNat 0)+(wR iU ((wR iU ((wR iU ((wR iU ((u147.getD (7:Int).toNat 0)+(wR iU ((bO 32 (wR iU ((bO 32 y201 ^^^ bO 32 y203).toNat:Int)) ^^^ bO 32 y205).toNat:Int))))+(wR iU ((bO 32 (wR iU ((bO 32 (u147.getD (4:Int).toNat 0) &&& bO 32 (u147.getD (5:Int).toNat 0)).toNat:Int)) ^^^ bO 32 (wR iU ((bO 32 (wR iU ((bO 32 4294967295 ^^^ bO 32 (u147.getD (4:Int).toNat 0)).toNat:Int)) &&& bO 32 (u147.getD (6:Int).toNat 0)).toNat:Int))).toNat:Int))))+(l2.getD u151.toNat 0)))+(u53.getD u151.toNat 0))))),(u147.getD (4:Int).toNat 0),(u147.getD (5:Int).toNat 0),(u147.getD (6:Int).toNat 0)]:List Int),(w64 (u151+1))))) else none)))) else none) else none)))) else none) else none) else none) else none) else none) else none) else none) else (some (.inr (.out u147))))
noncomputable def impl_Hash_block.s4 (u152:List Int) (u233:Int) (u234:Int) (u235:Int) (u236:Int) (u237:Int) (u238:Int) (u239:Int) (u240:Int) (u241:Int):Option ((Int×Int×Int×Int×Int×Int×Int×Int×Int) ⊕ Ex (Int×Int×Int×Int×Int×Int×Int×Int) (Int×Int×Int×Int×Int×Int×Int×Int×ByteArray×Int)) :=
  (bif (decide (u233<8)) then (if 0≤u233∧u233<(8:Int) then (if 0≤u233∧u233<(8:Int) then (if 0≤u233∧u233<(8:Int) then (some (.inl ((w64 (u233+1)),((([u234,u235,u236,u237,u238,u239,u240,u241]:List Int).set u233.toNat (wR iS (wR iU ((wR iU (([u234,u235,u236,u237,u238,u239,u240,u241]:List Int).getD u233.toNat 0))+(u152.getD u233.toNat 0))))).getD 0 0),((([u234,u235,u236,u237,u238,u239,u240,u241]:List Int).set u233.toNat (wR iS (wR iU ((wR iU (([u234,u235,u236,u237,u238,u239,u240,u241]:List Int).getD u233.toNat 0))+(u152.getD u233.toNat 0))))).getD 1 0),((([u234,u235,u236,u237,u238,u239,u240,u241]:List Int).set u233.toNat (wR iS (wR iU ((wR iU (([u234,u235,u236,u237,u238,u239,u240,u241]:List Int).getD u233.toNat 0))+(u152.getD u233.toNat 0))))).getD 2 0),((([u234,u235,u236,u237,u238,u239,u240,u241]:List Int).set u233.toNat (wR iS (wR iU ((wR iU (([u234,u235,u236,u237,u238,u239,u240,u241]:List Int).getD u233.toNat 0))+(u152.getD u233.toNat 0))))).getD 3 0),((([u234,u235,u236,u237,u238,u239,u240,u241]:List Int).set u233.toNat (wR iS (wR iU ((wR iU (([u234,u235,u236,u237,u238,u239,u240,u241]:List Int).getD u233.toNat 0))+(u152.getD u233.toNat 0))))).getD 4 0),((([u234,u235,u236,u237,u238,u239,u240,u241]:List Int).set u233.toNat (wR iS (wR iU ((wR iU (([u234,u235,u236,u237,u238,u239,u240,u241]:List Int).getD u233.toNat 0))+(u152.getD u233.toNat 0))))).getD 5 0),((([u234,u235,u236,u237,u238,u239,u240,u241]:List Int).set u233.toNat (wR iS (wR iU ((wR iU (([u234,u235,u236,u237,u238,u239,u240,u241]:List Int).getD u233.toNat 0))+(u152.getD u233.toNat 0))))).getD 6 0),((([u234,u235,u236,u237,u238,u239,u240,u241]:List Int).set u233.toNat (wR iS (wR iU ((wR iU (([u234,u235,u236,u237,u238,u239,u240,u241]:List Int).getD u233.toNat 0))+(u152.getD u233.toNat 0))))).getD 7 0)))) else none) else none) else none) else (some (.inr (.out (u234,u235,u236,u237,u238,u239,u240,u241)))))
noncomputable def impl_Hash_block.f (x0:S_Hash) (x1:ByteArray) (l2:List Int):Option (Int×Int×Int×Int×Int×Int×Int×Int×ByteArray×Int) :=
  ((loopO (fun s=>impl_Hash_block.s0 x1 s.1 s.2) ((List.replicate 64 (0:Int)),0)).bind fun o=>match o with | .out u15=>((loopO (fun s=>impl_Hash_block.s1  s.1 s.2) (u15,16)).bind fun o=>match o with | .out u53=>((loopO (fun s=>impl_Hash_block.s2 x0 s.1 s.2) ((List.replicate 8 (0:Int)),0)).bind fun o=>match o with | .out u118=>((loopO (fun s=>impl_Hash_block.s3 l2 u53 s.1 s.2) (u118,0)).bind fun o=>match o with | .out u152=>((loopO (fun s=>impl_Hash_block.s4 u152 s.1 s.2.1 s.2.2.1 s.2.2.2.1 s.2.2.2.2.1 s.2.2.2.2.2.1 s.2.2.2.2.2.2.1 s.2.2.2.2.2.2.2.1 s.2.2.2.2.2.2.2.2) (0,x0.H0,x0.H1,x0.H2,x0.H3,x0.H4,x0.H5,x0.H6,x0.H7)).bind fun o=>match o with | .out (u242,u243,u244,u245,u246,u247,u248,u249)=>(some (u242,u243,u244,u245,u246,u247,u248,u249,x0.Buf,x0.N)) | .ret r=>(some r)) | .ret r=>(some r)) | .ret r=>(some r)) | .ret r=>(some r)) | .ret r=>(some r))
theorem impl_Hash_block_t (w0:World) (b0_:Nat) (x0:S_Hash) (x1:ByteArray) (b2_:Nat) (l2:List Int) (k2_:Chunk) (v2_:View (Lay.int iU) (some ⟨b2_,0,none⟩) 64 l2 k2_) (w2_:Has w0 k2_) (e2_:l2.length=64) (hs0:Sat (blks [(1,[(b0_,.cells #[vI iS x0.H0,vI iS x0.H1,vI iS x0.H2,vI iS x0.H3,vI iS x0.H4,vI iS x0.H5,vI iS x0.H6,vI iS x0.H7,vS x0.Buf,vI iS x0.N] 79 (0,0))])]) w0 w0 [(2,k2_)] [(1,[(b0_,.cells #[vI iS x0.H0,vI iS x0.H1,vI iS x0.H2,vI iS x0.H3,vI iS x0.H4,vI iS x0.H5,vI iS x0.H6,vI iS x0.H7,vS x0.Buf,vI iS x0.N] 79 (0,0))])]) (r:Int×Int×Int×Int×Int×Int×Int×Int×ByteArray×Int) (H:impl_Hash_block.f x0 x1 l2=some r) :
    Calls Tryz.prog 87 #[vP (some ⟨b0_,0,none⟩),vS x1,vP (some ⟨b2_,0,none⟩)] w0 (Ret (fun v w=>v = .tuple #[]∧Sat (blks [(1,[(b0_,.cells #[vI iS x0.H0,vI iS x0.H1,vI iS x0.H2,vI iS x0.H3,vI iS x0.H4,vI iS x0.H5,vI iS x0.H6,vI iS x0.H7,vS x0.Buf,vI iS x0.N] 79 (0,0))])]) w0 w [] [(0,[(b0_,.cells #[vI iS r.1,vI iS r.2.1,vI iS r.2.2.1,vI iS r.2.2.2.1,vI iS r.2.2.2.2.1,vI iS r.2.2.2.2.2.1,vI iS r.2.2.2.2.2.2.1,vI iS r.2.2.2.2.2.2.2.1,vS r.2.2.2.2.2.2.2.2.1,vI iS r.2.2.2.2.2.2.2.2.2] 79 (0,0))])])):=by
 have hs:=hs0
 unfold impl_Hash_block.f at H
 refine enter Tryz.func87 rfl Tryz.ntmps87 rfl fun a hk=>sr fun _ hK1=>sala 3 ((Lay.int iU)) (m:=64) (z:=0) (zc:=[vI iU 0]) hs rfl hk rfl rfl ze111 (by exact ⟨rfl,rfl⟩) rfl rfl rfl fun b2 k3 w a hk o4 hs=>?_
 have lh5:(List.replicate 64 (0:Int)).length=64:=List.length_replicate
 refine nx hK1 <| sq fun _ hK6=>sr fun _ hK7=>mv hk rfl fun a hk=>nx hK7 ?_
 obtain ⟨o19,h20,HL21⟩:=bind_some H
 clear H
 obtain ⟨R22,hR22⟩:=nm fun a w=>∃ (u15:List Int) (k16:Chunk),o19 = .out u15∧Kn [(0,(vP (some ⟨b0_,0,none⟩))),(2,(vP (some ⟨b2_,0,none⟩))),(6,(vP (some ⟨b2,0,none⟩)))] 215 a∧Sat (blks [(1,[(b0_,.cells #[vI iS x0.H0,vI iS x0.H1,vI iS x0.H2,vI iS x0.H3,vI iS x0.H4,vI iS x0.H5,vI iS x0.H6,vI iS x0.H7,vS x0.Buf,vI iS x0.N] 79 (0,0))])]) w0 w [(2,k2_)] [(3,k16),(1,[(b0_,.cells #[vI iS x0.H0,vI iS x0.H1,vI iS x0.H2,vI iS x0.H3,vI iS x0.H4,vI iS x0.H5,vI iS x0.H6,vI iS x0.H7,vS x0.Buf,vI iS x0.N] 79 (0,0))])]∧Own (Lay.int iU) 111 (some ⟨b2,0,none⟩) 64 u15 k16∧u15.length=64
 refine wp_cutq R22 ?_ ?_
 ·refine wp_block ?_
  obtain ⟨fu24,h20⟩:=loopO_some h20
  obtain ⟨I23,hI23⟩:=nm fun fu a w=>∃ (u10:List Int) (u14:Int) (k11:Chunk),loopN (fun s=>impl_Hash_block.s0 x1 s.1 s.2) fu (u10,u14)=some o19∧Kn [(0,(vP (some ⟨b0_,0,none⟩))),(1,(vS x1)),(2,(vP (some ⟨b2_,0,none⟩))),(6,(vP (some ⟨b2,0,none⟩))),(25,(vI iS u14))] 215 a∧Sat (blks [(1,[(b0_,.cells #[vI iS x0.H0,vI iS x0.H1,vI iS x0.H2,vI iS x0.H3,vI iS x0.H4,vI iS x0.H5,vI iS x0.H6,vI iS x0.H7,vS x0.Buf,vI iS x0.N] 79 (0,0))])]) w0 w [(2,k2_)] [(3,k11),(1,[(b0_,.cells #[vI iS x0.H0,vI iS x0.H1,vI iS x0.H2,vI iS x0.H3,vI iS x0.H4,vI iS x0.H5,vI iS x0.H6,vI iS x0.H7,vS x0.Buf,vI iS x0.N] 79 (0,0))])]∧Own (Lay.int iU) 111 (some ⟨b2,0,none⟩) 64 u10 k11∧u10.length=64
  refine wp_loop_ghost I23 fu24 ?_ ?_
  ·rw [hI23]
   exact ⟨_,_,_,h20,(hk.al rfl),(hs.pick [(3,3),(1,1)] rfl),o4,lh5⟩
  clear h20 hk hs
  intro fu24 a w hI0
  rw [hI23] at hI0
  obtain ⟨u10,u14,k11,hi,hk,hs,o12,lh13⟩:=hI0
  obtain ⟨x25,H,h26⟩:=loop_round hi
  try dsimp only at H
  unfold impl_Hash_block.s0 at H
  refine sr fun _ hK27=>sv (.bool (decide (u14<16))) hk rfl rfl rfl fun a hk=>nx hK27 <| sq fun _ hK28=>?_
  rcases cond_some H with ⟨c29,H⟩ | ⟨c29,H⟩
  ·have hk:=hk.lit 26 c29 rfl
   refine cnd_true hk rfl rfl <| wp_skip <| hK28 _ _ <| sq fun _ hK30=>wp_block ?_
   refine sr fun _ hK31=>mv hk rfl fun a hk=>mv hk rfl fun a hk=>nx hK31 <| wp_region_tree (.q 0 (.q 1 (.q 2 (.q 3 (.q 4 (.q 5 (.q 6 (.q 7 (.q 8 (.q 9 (.q 10 (.q 11 (.q 12 (.q 13 (.q 14 (.q 15 (.q 16 (.q 17 (.q 18 (.q 19 (.q 20 (.q 21 (.q 22 (.q 23 (.alt 24 (.alt 25 (.alt 26 (.alt 27 (.alt 28 (.alt 29 (.alt 30 (.last 31) .stop) .stop) .stop) .stop) .stop) .stop) .stop))))))))))))))))))))))))) mo (by kernel_rfl) (hs.pick [(3,3),(1,1)] rfl) fun _=>?_
   have hs:=hs.drew
   refine tqm hk rfl fun a hk=>tqm hk rfl fun a hk=>tqm hk rfl fun a hk=>tqv (vI iS (w64 (4*u14))) hk rfl rfl (fun _=>rfl) fun a hk=>?_
   obtain ⟨c33,H⟩:=ite_no H
   refine tqst _ hk rfl rfl rfl rfl (fun w hs=>six rfl hk rfl rfl rfl rfl un9 c33.1 c33.2 fun a hk=>qe hk) fun a hk=>tqst _ hk rfl rfl rfl rfl (fun w hs=>scn rfl hk rfl rfl rfl un110 un5 fun a hk=>qe hk) fun a hk=>tqv (vI iU (wR iU ((wR iU (byteAt x1 (w64 (4*u14))))*2 ^ 24))) hk rfl rfl (fun _=>rfl) fun a hk=>tqm hk rfl fun a hk=>tqm hk rfl fun a hk=>tqv (vI iS (w64 (4*u14))) hk rfl rfl (fun _=>rfl) fun a hk=>tqv (vI iS (w64 ((w64 (4*u14))+1))) hk rfl rfl (fun _=>rfl) fun a hk=>?_
   obtain ⟨c34,H⟩:=ite_no H
   refine tqst _ hk rfl rfl rfl rfl (fun w hs=>six rfl hk rfl rfl rfl rfl un9 c34.1 c34.2 fun a hk=>qe hk) fun a hk=>tqst _ hk rfl rfl rfl rfl (fun w hs=>scn rfl hk rfl rfl rfl un110 un5 fun a hk=>qe hk) fun a hk=>tqv (vI iU (wR iU ((wR iU (byteAt x1 (w64 ((w64 (4*u14))+1))))*2 ^ 16))) hk rfl rfl (fun _=>rfl) fun a hk=>tqv (vI iU (bio3 (wR iU ((wR iU (byteAt x1 (w64 (4*u14))))*2 ^ 24)) (wR iU ((wR iU (byteAt x1 (w64 ((w64 (4*u14))+1))))*2 ^ 16)))) hk rfl rfl (fun _=>rfl) fun a hk=>tqm hk rfl fun a hk=>tqm hk rfl fun a hk=>tqv (vI iS (w64 (4*u14))) hk rfl rfl (fun _=>rfl) fun a hk=>tqv (vI iS (w64 ((w64 (4*u14))+2))) hk rfl rfl (fun _=>rfl) fun a hk=>?_
   obtain ⟨c35,H⟩:=ite_no H
   refine tqst _ hk rfl rfl rfl rfl (fun w hs=>six rfl hk rfl rfl rfl rfl un9 c35.1 c35.2 fun a hk=>qe hk) fun a hk=>tqst _ hk rfl rfl rfl rfl (fun w hs=>scn rfl hk rfl rfl rfl un110 un5 fun a hk=>qe hk) fun a hk=>tqv (vI iU (wR iU ((wR iU (byteAt x1 (w64 ((w64 (4*u14))+2))))*2 ^ 8))) hk rfl rfl (fun _=>rfl) fun a hk=>tqv (vI iU (bio3 (bio3 (wR iU ((wR iU (byteAt x1 (w64 (4*u14))))*2 ^ 24)) (wR iU ((wR iU (byteAt x1 (w64 ((w64 (4*u14))+1))))*2 ^ 16))) (wR iU ((wR iU (byteAt x1 (w64 ((w64 (4*u14))+2))))*2 ^ 8)))) hk rfl rfl (fun _=>rfl) fun a hk=>tqm hk rfl fun a hk=>tss hs hk rfl rfl fun _ hK_r32_24 w hs=>mv hk rfl fun a hk=>se (hs.pick [(3,3),(1,1)] rfl) hk (hK_r32_24 _ _ ?_)
   refine tss hs hk rfl rfl fun _ hK_r32_25 w hs=>sv (vI iS (w64 (4*u14))) hk rfl rfl rfl fun a hk=>se (hs.pick [(3,3),(1,1)] rfl) hk (hK_r32_25 _ _ ?_)
   refine tss hs hk rfl rfl fun _ hK_r32_26 w hs=>sv (vI iS (w64 ((w64 (4*u14))+3))) hk rfl rfl rfl fun a hk=>se (hs.pick [(3,3),(1,1)] rfl) hk (hK_r32_26 _ _ ?_)
   refine tss hs hk rfl rfl fun _ hK_r32_27 w hs=>?_
   obtain ⟨c36,H⟩:=ite_no H
   refine six rfl hk rfl rfl rfl rfl un9 c36.1 c36.2 fun a hk=>se (hs.pick [(3,3),(1,1)] rfl) hk (hK_r32_27 _ _ ?_)
   refine tss hs hk rfl rfl fun _ hK_r32_28 w hs=>scn rfl hk rfl rfl rfl un110 un5 fun a hk=>se (hs.pick [(3,3),(1,1)] rfl) hk (hK_r32_28 _ _ ?_)
   refine tss hs hk rfl rfl fun _ hK_r32_29 w hs=>sv (vI iU (bio3 (bio3 (bio3 (wR iU ((wR iU (byteAt x1 (w64 (4*u14))))*2 ^ 24)) (wR iU ((wR iU (byteAt x1 (w64 ((w64 (4*u14))+1))))*2 ^ 16))) (wR iU ((wR iU (byteAt x1 (w64 ((w64 (4*u14))+2))))*2 ^ 8))) (wR iU (byteAt x1 (w64 ((w64 (4*u14))+3)))))) hk rfl rfl rfl fun a hk=>se (hs.pick [(3,3),(1,1)] rfl) hk (hK_r32_29 _ _ ?_)
   refine tss hs hk rfl rfl fun _ hK_r32_30 w hs=>?_
   obtain ⟨c37,H⟩:=ite_no H
   obtain ⟨b38,q39,hAc37⟩:=(o12.view).some_ u14 c37.1 (by rw [lh13];exact c37.2)
   refine sia rfl hk rfl rfl rfl rfl un111 sz110 c37.1 c37.2 hAc37 fun a hk=>se (hs.pick [(3,3),(1,1)] rfl) hk (hK_r32_30 _ _ ?_)
   refine tlst hk rfl rfl fun K_r32_31 hK_r32_31 w hF=>?_
   have hs:=hs.f hF
   refine so (j:=0) 3 0 (bio3 (bio3 (bio3 (wR iU ((wR iU (byteAt x1 (w64 (4*u14))))*2 ^ 24)) (wR iU ((wR iU (byteAt x1 (w64 ((w64 (4*u14))+1))))*2 ^ 16))) (wR iU ((wR iU (byteAt x1 (w64 ((w64 (4*u14))+2))))*2 ^ 8))) (wR iU (byteAt x1 (w64 ((w64 (4*u14))+3))))) hs rfl o12 c37.1 (by rw [lh13];exact c37.2) rfl hk rfl rfl rfl rfl rfl sz110 (by simp [Value.cells,Value.oneCell']) (Nat.le_of_ble_eq_true rfl) (fun _ _ h=>⟨by rw [h.1];rfl,h.2⟩) fun k40 w a hk o41 hs=>?_
   have lh42:(u10.set u14.toNat (bio3 (bio3 (bio3 (wR iU ((wR iU (byteAt x1 (w64 (4*u14))))*2 ^ 24)) (wR iU ((wR iU (byteAt x1 (w64 ((w64 (4*u14))+1))))*2 ^ 16))) (wR iU ((wR iU (byteAt x1 (w64 ((w64 (4*u14))+2))))*2 ^ 8))) (wR iU (byteAt x1 (w64 ((w64 (4*u14))+3)))))).length=64:=by rw [List.length_set];exact lh13
   refine se trivial hk (hK_r32_31 _ _ fun w hF=>?_)
   have hs:=hs.f hF
   refine hK30 _ _ ?_
   apply wp_region_lit
   refine sv (vI iS (w64 (u14+1))) hk rfl rfl rfl fun a hk=>mv hk rfl fun a hk=>?_
   show wpList _ _ _ [] _ _
   refine wpList_nil ?_
   obtain rfl:=osi H
   obtain ⟨m43,hmm43,h26⟩:=h26
   show ∃ n',n'<_∧I23 n' _ _
   refine ⟨m43,hmm43,?_⟩
   rw [hI23]
   exact ⟨_,_,_,h26,(hk.al rfl),(hs.pick [(3,3),(1,1)] rfl),o41,lh42⟩
  have hk:=hk.lit 26 c29 rfl
  refine cnd_false hk rfl rfl <| wp_exit ?_
  obtain rfl:=osi H
  show R22 _ _
  rw [hR22]
  exact ⟨_,_,h26.symm,(hk.al rfl),(hs.pick [(3,3),(1,1)] rfl),o12,lh13⟩
 intro a w hR0
 rw [hR22] at hR0
 obtain ⟨u15,k16,rfl,hk,hs,o17,lh18⟩:=hR0
 have H:=HL21
 try dsimp only at H
 refine hK6 _ _ <| sq fun _ hK44=>sr fun _ hK45=>mv hk rfl fun a hk=>nx hK45 ?_
 obtain ⟨o57,h58,HL59⟩:=bind_some H
 clear H
 obtain ⟨R60,hR60⟩:=nm fun a w=>∃ (u53:List Int) (k54:Chunk),o57 = .out u53∧Kn [(0,(vP (some ⟨b0_,0,none⟩))),(2,(vP (some ⟨b2_,0,none⟩))),(6,(vP (some ⟨b2,0,none⟩)))] 215 a∧Sat (blks [(1,[(b0_,.cells #[vI iS x0.H0,vI iS x0.H1,vI iS x0.H2,vI iS x0.H3,vI iS x0.H4,vI iS x0.H5,vI iS x0.H6,vI iS x0.H7,vS x0.Buf,vI iS x0.N] 79 (0,0))])]) w0 w [(2,k2_)] [(3,k54),(1,[(b0_,.cells #[vI iS x0.H0,vI iS x0.H1,vI iS x0.H2,vI iS x0.H3,vI iS x0.H4,vI iS x0.H5,vI iS x0.H6,vI iS x0.H7,vS x0.Buf,vI iS x0.N] 79 (0,0))])]∧Own (Lay.int iU) 111 (some ⟨b2,0,none⟩) 64 u53 k54∧u53.length=64
 refine wp_cutq R60 ?_ ?_
 ·refine wp_block ?_
  obtain ⟨fu62,h58⟩:=loopO_some h58
  obtain ⟨I61,hI61⟩:=nm fun fu a w=>∃ (u48:List Int) (u52:Int) (k49:Chunk),loopN (fun s=>impl_Hash_block.s1  s.1 s.2) fu (u48,u52)=some o57∧Kn [(0,(vP (some ⟨b0_,0,none⟩))),(2,(vP (some ⟨b2_,0,none⟩))),(6,(vP (some ⟨b2,0,none⟩))),(8,(vI iS u52))] 215 a∧Sat (blks [(1,[(b0_,.cells #[vI iS x0.H0,vI iS x0.H1,vI iS x0.H2,vI iS x0.H3,vI iS x0.H4,vI iS x0.H5,vI iS x0.H6,vI iS x0.H7,vS x0.Buf,vI iS x0.N] 79 (0,0))])]) w0 w [(2,k2_)] [(3,k49),(1,[(b0_,.cells #[vI iS x0.H0,vI iS x0.H1,vI iS x0.H2,vI iS x0.H3,vI iS x0.H4,vI iS x0.H5,vI iS x0.H6,vI iS x0.H7,vS x0.Buf,vI iS x0.N] 79 (0,0))])]∧Own (Lay.int iU) 111 (some ⟨b2,0,none⟩) 64 u48 k49∧u48.length=64
  refine wp_loop_ghost I61 fu62 ?_ ?_
  ·rw [hI61]
   exact ⟨_,_,_,h58,(hk.al rfl),(hs.pick [(3,3),(1,1)] rfl),o17,lh18⟩
  clear h58 hk hs
  intro fu62 a w hI0
  rw [hI61] at hI0
  obtain ⟨u48,u52,k49,hi,hk,hs,o50,lh51⟩:=hI0
  obtain ⟨x63,H,h64⟩:=loop_round hi
  try dsimp only at H
  unfold impl_Hash_block.s1 at H
  refine sq fun _ hK65=>sr fun _ hK66=>mv hk rfl fun a hk=>sv (.bool (decide (u52<64))) hk rfl rfl rfl fun a hk=>nx hK66 ?_
  rcases cond_some H with ⟨c67,H⟩ | ⟨c67,H⟩
  ·have hk:=hk.lit 61 c67 rfl
   refine cnd_true hk rfl rfl <| wp_skip <| hK65 _ _ <| sq fun _ hK68=>wp_block ?_
   refine sq fun _ hK69=>wp_region_tree (.q 0 (.q 1 (.q 2 (.q 3 (.q 4 (.q 5 (.q 6 (.q 7 (.alt 8 (.last 9) .stop))))))))) mo (by kernel_rfl) (hs.pick [(3,3),(1,1)] rfl) fun _=>?_
   have hs:=hs.drew
   refine tqm hk rfl fun a hk=>tqv (vI iS (w64 (u52-15))) hk rfl rfl (fun _=>rfl) fun a hk=>?_
   obtain ⟨c71,H⟩:=ite_no H
   obtain ⟨b72,q73,hAc71⟩:=(o50.view).some_ (w64 (u52-15)) c71.1 (by rw [lh51];exact c71.2)
   refine tqst _ hk rfl rfl rfl rfl (fun w hs=>sia rfl hk rfl rfl rfl rfl un111 sz110 c71.1 c71.2 hAc71 fun a hk=>qe hk) fun a hk=>?_
   obtain ⟨_,rfl,e74⟩:=(o50.view).at_ 0 (w64 (u52-15)) c71.1 (by rw [lh51];exact c71.2)
   refine tqst _ hk rfl rfl rfl rfl (fun w hs=>sl (v:=(vI iU (u48.getD (w64 (u52-15)).toNat 0))) rfl hk rfl rfl rfl ag110 ((e74 0 _ rfl).cell (hs.hasG (k:=3) rfl)) fun a hk=>qe hk) fun a hk=>tqm hk rfl fun a hk=>tqv (vI iS (w64 (u52-2))) hk rfl rfl (fun _=>rfl) fun a hk=>?_
   obtain ⟨c75,H⟩:=ite_no H
   obtain ⟨b76,q77,hAc75⟩:=(o50.view).some_ (w64 (u52-2)) c75.1 (by rw [lh51];exact c75.2)
   refine tqst _ hk rfl rfl rfl rfl (fun w hs=>sia rfl hk rfl rfl rfl rfl un111 sz110 c75.1 c75.2 hAc75 fun a hk=>qe hk) fun a hk=>?_
   obtain ⟨_,rfl,e78⟩:=(o50.view).at_ 0 (w64 (u52-2)) c75.1 (by rw [lh51];exact c75.2)
   refine tqst _ hk rfl rfl rfl rfl (fun w hs=>sl (v:=(vI iU (u48.getD (w64 (u52-2)).toNat 0))) rfl hk rfl rfl rfl ag110 ((e78 0 _ rfl).cell (hs.hasG (k:=3) rfl)) fun a hk=>qe hk) fun a hk=>tss hs hk rfl rfl fun _ hK_r70_8 w hs=>mv hk rfl fun a hk=>se (hs.pick [(3,3),(1,1)] rfl) hk (hK_r70_8 _ _ ?_)
   refine tlst hk rfl rfl fun K_r70_9 hK_r70_9 w hF=>?_
   have hs:=hs.f hF
   refine mv hk rfl fun a hk=>se trivial hk (hK_r70_9 _ _ fun w hF=>?_)
   have hs:=hs.f hF
   refine hK69 _ _ <| wp_region_tree (.q 0 (.q 1 (.q 2 (.q 3 (.q 4 (.q 5 (.q 6 (.q 7 (.q 8 (.q 9 (.q 10 (.q 11 (.q 12 (.q 13 (.q 14 (.q 15 (.q 16 (.q 17 (.q 18 (.q 19 (.q 20 (.q 21 (.q 22 (.q 23 (.alt 24 (.alt 25 (.alt 26 (.alt 27 (.alt 28 (.last 29) .stop) .stop) .stop) .stop) .stop))))))))))))))))))))))))) mo (by kernel_rfl) (hs.pick [(3,3),(1,1)] rfl) fun _=>?_
   have hs:=hs.drew
   refine tqm hk rfl fun a hk=>tqm hk rfl fun a hk=>tqv (vI iS (w64 (u52-16))) hk rfl rfl (fun _=>rfl) fun a hk=>?_
   obtain ⟨c80,H⟩:=ite_no H
   obtain ⟨b81,q82,hAc80⟩:=(o50.view).some_ (w64 (u52-16)) c80.1 (by rw [lh51];exact c80.2)
   refine tqst _ hk rfl rfl rfl rfl (fun w hs=>sia rfl hk rfl rfl rfl rfl un111 sz110 c80.1 c80.2 hAc80 fun a hk=>qe hk) fun a hk=>?_
   obtain ⟨_,rfl,e83⟩:=(o50.view).at_ 0 (w64 (u52-16)) c80.1 (by rw [lh51];exact c80.2)
   refine tqst _ hk rfl rfl rfl rfl (fun w hs=>sl (v:=(vI iU (u48.getD (w64 (u52-16)).toNat 0))) rfl hk rfl rfl rfl ag110 ((e83 0 _ rfl).cell (hs.hasG (k:=3) rfl)) fun a hk=>qe hk) fun a hk=>tqm hk rfl fun a hk=>?_
   obtain ⟨y84,h85,H⟩:=bind_some H
   refine tqst (vI iU y84) hk rfl rfl rfl rfl (fun w hs=>sc rfl en105 hk rfl rfl rfl (impl_turned_t _ (u48.getD (w64 (u52-15)).toNat 0) 7 _ h85) fun _ w hR a hk=>qc hR hk) fun a hk=>tqm hk rfl fun a hk=>?_
   obtain ⟨y86,h87,H⟩:=bind_some H
   refine tqst (vI iU y86) hk rfl rfl rfl rfl (fun w hs=>sc rfl en105 hk rfl rfl rfl (impl_turned_t _ (u48.getD (w64 (u52-15)).toNat 0) 18 _ h87) fun _ w hR a hk=>qc hR hk) fun a hk=>tqv (vI iU (bix3 y84 y86)) hk rfl rfl (fun _=>rfl) fun a hk=>tqm hk rfl fun a hk=>tqv (vI iU (Int.fdiv (u48.getD (w64 (u52-15)).toNat 0) (2 ^ 3))) hk rfl rfl (fun _=>rfl) fun a hk=>tqv (vI iU (bix3 (bix3 y84 y86) (Int.fdiv (u48.getD (w64 (u52-15)).toNat 0) (2 ^ 3)))) hk rfl rfl (fun _=>rfl) fun a hk=>tqv (vI iU (wR iU ((u48.getD (w64 (u52-16)).toNat 0)+(bix3 (bix3 y84 y86) (Int.fdiv (u48.getD (w64 (u52-15)).toNat 0) (2 ^ 3)))))) hk rfl rfl (fun _=>rfl) fun a hk=>tqm hk rfl fun a hk=>tqv (vI iS (w64 (u52-7))) hk rfl rfl (fun _=>rfl) fun a hk=>?_
   obtain ⟨c88,H⟩:=ite_no H
   obtain ⟨b89,q90,hAc88⟩:=(o50.view).some_ (w64 (u52-7)) c88.1 (by rw [lh51];exact c88.2)
   refine tqst _ hk rfl rfl rfl rfl (fun w hs=>sia rfl hk rfl rfl rfl rfl un111 sz110 c88.1 c88.2 hAc88 fun a hk=>qe hk) fun a hk=>?_
   obtain ⟨_,rfl,e91⟩:=(o50.view).at_ 0 (w64 (u52-7)) c88.1 (by rw [lh51];exact c88.2)
   refine tqst _ hk rfl rfl rfl rfl (fun w hs=>sl (v:=(vI iU (u48.getD (w64 (u52-7)).toNat 0))) rfl hk rfl rfl rfl ag110 ((e91 0 _ rfl).cell (hs.hasG (k:=3) rfl)) fun a hk=>qe hk) fun a hk=>tqv (vI iU (wR iU ((wR iU ((u48.getD (w64 (u52-16)).toNat 0)+(bix3 (bix3 y84 y86) (Int.fdiv (u48.getD (w64 (u52-15)).toNat 0) (2 ^ 3)))))+(u48.getD (w64 (u52-7)).toNat 0)))) hk rfl rfl (fun _=>rfl) fun a hk=>tqm hk rfl fun a hk=>?_
   obtain ⟨y92,h93,H⟩:=bind_some H
   refine tqst (vI iU y92) hk rfl rfl rfl rfl (fun w hs=>sc rfl en105 hk rfl rfl rfl (impl_turned_t _ (u48.getD (w64 (u52-2)).toNat 0) 17 _ h93) fun _ w hR a hk=>qc hR hk) fun a hk=>tqm hk rfl fun a hk=>?_
   obtain ⟨y94,h95,H⟩:=bind_some H
   refine tqst (vI iU y94) hk rfl rfl rfl rfl (fun w hs=>sc rfl en105 hk rfl rfl rfl (impl_turned_t _ (u48.getD (w64 (u52-2)).toNat 0) 19 _ h95) fun _ w hR a hk=>qc hR hk) fun a hk=>tqv (vI iU (bix3 y92 y94)) hk rfl rfl (fun _=>rfl) fun a hk=>tss hs hk rfl rfl fun _ hK_r79_24 w hs=>mv hk rfl fun a hk=>se (hs.pick [(3,3),(1,1)] rfl) hk (hK_r79_24 _ _ ?_)
   refine tss hs hk rfl rfl fun _ hK_r79_25 w hs=>sv (vI iU (Int.fdiv (u48.getD (w64 (u52-2)).toNat 0) (2 ^ 10))) hk rfl rfl rfl fun a hk=>se (hs.pick [(3,3),(1,1)] rfl) hk (hK_r79_25 _ _ ?_)
   refine tss hs hk rfl rfl fun _ hK_r79_26 w hs=>sv (vI iU (bix3 (bix3 y92 y94) (Int.fdiv (u48.getD (w64 (u52-2)).toNat 0) (2 ^ 10)))) hk rfl rfl rfl fun a hk=>se (hs.pick [(3,3),(1,1)] rfl) hk (hK_r79_26 _ _ ?_)
   refine tss hs hk rfl rfl fun _ hK_r79_27 w hs=>sv (vI iU (wR iU ((wR iU ((wR iU ((u48.getD (w64 (u52-16)).toNat 0)+(bix3 (bix3 y84 y86) (Int.fdiv (u48.getD (w64 (u52-15)).toNat 0) (2 ^ 3)))))+(u48.getD (w64 (u52-7)).toNat 0)))+(bix3 (bix3 y92 y94) (Int.fdiv (u48.getD (w64 (u52-2)).toNat 0) (2 ^ 10)))))) hk rfl rfl rfl fun a hk=>se (hs.pick [(3,3),(1,1)] rfl) hk (hK_r79_27 _ _ ?_)
   refine tss hs hk rfl rfl fun _ hK_r79_28 w hs=>?_
   obtain ⟨c96,H⟩:=ite_no H
   obtain ⟨b97,q98,hAc96⟩:=(o50.view).some_ u52 c96.1 (by rw [lh51];exact c96.2)
   refine sia rfl hk rfl rfl rfl rfl un111 sz110 c96.1 c96.2 hAc96 fun a hk=>se (hs.pick [(3,3),(1,1)] rfl) hk (hK_r79_28 _ _ ?_)
   refine tlst hk rfl rfl fun K_r79_29 hK_r79_29 w hF=>?_
   have hs:=hs.f hF
   refine so (j:=0) 3 0 (wR iU ((wR iU ((wR iU ((u48.getD (w64 (u52-16)).toNat 0)+(bix3 (bix3 y84 y86) (Int.fdiv (u48.getD (w64 (u52-15)).toNat 0) (2 ^ 3)))))+(u48.getD (w64 (u52-7)).toNat 0)))+(bix3 (bix3 y92 y94) (Int.fdiv (u48.getD (w64 (u52-2)).toNat 0) (2 ^ 10))))) hs rfl o50 c96.1 (by rw [lh51];exact c96.2) rfl hk rfl rfl rfl rfl rfl sz110 (by simp [Value.cells,Value.oneCell']) (Nat.le_of_ble_eq_true rfl) (fun _ _ h=>⟨by rw [h.1];rfl,h.2⟩) fun k99 w a hk o100 hs=>?_
   have lh101:(u48.set u52.toNat (wR iU ((wR iU ((wR iU ((u48.getD (w64 (u52-16)).toNat 0)+(bix3 (bix3 y84 y86) (Int.fdiv (u48.getD (w64 (u52-15)).toNat 0) (2 ^ 3)))))+(u48.getD (w64 (u52-7)).toNat 0)))+(bix3 (bix3 y92 y94) (Int.fdiv (u48.getD (w64 (u52-2)).toNat 0) (2 ^ 10)))))).length=64:=by rw [List.length_set];exact lh51
   refine se trivial hk (hK_r79_29 _ _ fun w hF=>?_)
   have hs:=hs.f hF
   refine hK68 _ _ ?_
   have hs:=hs.pick [(3,3),(1,1)] rfl
   apply wp_region_lit
   refine mv hk rfl fun a hk=>sv (vI iS (w64 (u52+1))) hk rfl rfl rfl fun a hk=>mv hk rfl fun a hk=>?_
   show wpList _ _ _ [] _ _
   refine wpList_nil ?_
   obtain rfl:=osi H
   obtain ⟨m102,hmm102,h64⟩:=h64
   show ∃ n',n'<_∧I61 n' _ _
   refine ⟨m102,hmm102,?_⟩
   rw [hI61]
   exact ⟨_,_,_,h64,(hk.al rfl),(hs.pick [(3,3),(1,1)] rfl),o100,lh101⟩
  have hk:=hk.lit 61 c67 rfl
  refine cnd_false hk rfl rfl <| wp_exit ?_
  obtain rfl:=osi H
  show R60 _ _
  rw [hR60]
  exact ⟨_,_,h64.symm,(hk.al rfl),(hs.pick [(3,3),(1,1)] rfl),o50,lh51⟩
 intro a w hR0
 rw [hR60] at hR0
 obtain ⟨u53,k54,rfl,hk,hs,o55,lh56⟩:=hR0
 have H:=HL59
 try dsimp only at H
 refine hK44 _ _ <| sr fun _ hK103=>sala 9 ((Lay.int iU)) (m:=8) (z:=0) (zc:=[vI iU 0]) hs rfl hk rfl rfl ze131 (by exact ⟨rfl,rfl⟩) rfl rfl rfl fun b104 k105 w a hk o106 hs=>?_
 have lh107:(List.replicate 8 (0:Int)).length=8:=List.length_replicate
 refine nx hK103 <| sq fun _ hK108=>sr fun _ hK109=>mv hk rfl fun a hk=>snk rfl hk rfl rfl rfl fun a hk=>sf ⟨b0_,0,none⟩ rfl hk rfl rfl rfl fd79_0 rfl fun a hk=>?_
 have lh110:([x0.H0,x0.H1,x0.H2,x0.H3,x0.H4,x0.H5,x0.H6,x0.H7]:List Int).length=8:=rfl
 refine slnB (k:=1) (ik:=.i64) (vs:=[vI iS x0.H0,vI iS x0.H1,vI iS x0.H2,vI iS x0.H3,vI iS x0.H4,vI iS x0.H5,vI iS x0.H6,vI iS x0.H7,vS x0.Buf,vI iS x0.N]) ([x0.H0,x0.H1,x0.H2,x0.H3,x0.H4,x0.H5,x0.H6,x0.H7]:List Int) hs rfl rfl lh110 rfl hk rfl rfl rfl ag77 sz77 fun a hk=>mv hk rfl fun a hk=>nx hK109 ?_
 obtain ⟨o122,h123,HL124⟩:=bind_some H
 clear H
 obtain ⟨R125,hR125⟩:=nm fun a w=>∃ (u118:List Int) (k119:Chunk),o122 = .out u118∧Kn [(0,(vP (some ⟨b0_,0,none⟩))),(2,(vP (some ⟨b2_,0,none⟩))),(6,(vP (some ⟨b2,0,none⟩))),(11,(vP (some ⟨b104,0,none⟩)))] 215 a∧Sat (blks [(1,[(b0_,.cells #[vI iS x0.H0,vI iS x0.H1,vI iS x0.H2,vI iS x0.H3,vI iS x0.H4,vI iS x0.H5,vI iS x0.H6,vI iS x0.H7,vS x0.Buf,vI iS x0.N] 79 (0,0))])]) w0 w [(2,k2_)] [(3,k54),(9,k119),(1,[(b0_,.cells #[vI iS x0.H0,vI iS x0.H1,vI iS x0.H2,vI iS x0.H3,vI iS x0.H4,vI iS x0.H5,vI iS x0.H6,vI iS x0.H7,vS x0.Buf,vI iS x0.N] 79 (0,0))])]∧Own (Lay.int iU) 131 (some ⟨b104,0,none⟩) 8 u118 k119∧u118.length=8
 refine wp_cutq R125 ?_ ?_
 ·refine wp_block ?_
  obtain ⟨fu127,h123⟩:=loopO_some h123
  obtain ⟨I126,hI126⟩:=nm fun fu a w=>∃ (u113:List Int) (u117:Int) (k114:Chunk),loopN (fun s=>impl_Hash_block.s2 x0 s.1 s.2) fu (u113,u117)=some o122∧Kn [(0,(vP (some ⟨b0_,0,none⟩))),(2,(vP (some ⟨b2_,0,none⟩))),(6,(vP (some ⟨b2,0,none⟩))),(11,(vP (some ⟨b104,0,none⟩))),(104,(aggI .i64 ([x0.H0,x0.H1,x0.H2,x0.H3,x0.H4,x0.H5,x0.H6,x0.H7]:List Int))),(105,(vI iS u117))] 215 a∧Sat (blks [(1,[(b0_,.cells #[vI iS x0.H0,vI iS x0.H1,vI iS x0.H2,vI iS x0.H3,vI iS x0.H4,vI iS x0.H5,vI iS x0.H6,vI iS x0.H7,vS x0.Buf,vI iS x0.N] 79 (0,0))])]) w0 w [(2,k2_)] [(3,k54),(9,k114),(1,[(b0_,.cells #[vI iS x0.H0,vI iS x0.H1,vI iS x0.H2,vI iS x0.H3,vI iS x0.H4,vI iS x0.H5,vI iS x0.H6,vI iS x0.H7,vS x0.Buf,vI iS x0.N] 79 (0,0))])]∧Own (Lay.int iU) 131 (some ⟨b104,0,none⟩) 8 u113 k114∧u113.length=8
  refine wp_loop_ghost I126 fu127 ?_ ?_
  ·rw [hI126]
   exact ⟨_,_,_,h123,(hk.al rfl),(hs.pick [(3,3),(9,9),(1,1)] rfl),o106,lh107⟩
  clear h123 hk hs
  intro fu127 a w hI0
  rw [hI126] at hI0
  obtain ⟨u113,u117,k114,hi,hk,hs,o115,lh116⟩:=hI0
  obtain ⟨x128,H,h129⟩:=loop_round hi
  try dsimp only at H
  unfold impl_Hash_block.s2 at H
  refine sr fun _ hK130=>sv (.bool (decide (u117<8))) hk rfl rfl rfl fun a hk=>nx hK130 ?_
  have hs:=hs.pick [(3,3),(9,9),(1,1)] rfl
  refine sq fun _ hK131=>?_
  rcases cond_some H with ⟨c132,H⟩ | ⟨c132,H⟩
  ·have hk:=hk.lit 106 c132 rfl
   refine cnd_true hk rfl rfl <| wp_skip <| hK131 _ _ <| sq fun _ hK133=>wp_block ?_
   refine sr fun _ hK134=>mv hk rfl fun a hk=>?_
   obtain ⟨c135,H⟩:=ite_no H
   refine sixa rfl hk rfl rfl rfl rfl un77 sz3 ag3 lh110 c135.1 c135.2 fun a hk=>mv hk rfl fun a hk=>mv hk rfl fun a hk=>nx hK134 ?_
   apply wp_region_lit
   refine mv hk rfl fun a hk=>mv hk rfl fun a hk=>scn rfl hk rfl rfl rfl un110 un3 fun a hk=>?_
   obtain ⟨c136,H⟩:=ite_no H
   obtain ⟨b137,q138,hAc136⟩:=(o115.view).some_ u117 c136.1 (by rw [lh116];exact c136.2)
   refine sia rfl hk rfl rfl rfl rfl un131 sz110 c136.1 c136.2 hAc136 fun a hk=>so (j:=0) 9 0 (wR iU (([x0.H0,x0.H1,x0.H2,x0.H3,x0.H4,x0.H5,x0.H6,x0.H7]:List Int).getD u117.toNat 0)) hs rfl o115 c136.1 (by rw [lh116];exact c136.2) rfl hk rfl rfl rfl rfl rfl sz110 (by simp [Value.cells,Value.oneCell']) (Nat.le_of_ble_eq_true rfl) (fun _ _ h=>⟨by rw [h.1];rfl,h.2⟩) fun k139 w a hk o140 hs=>?_
   have lh141:(u113.set u117.toNat (wR iU (([x0.H0,x0.H1,x0.H2,x0.H3,x0.H4,x0.H5,x0.H6,x0.H7]:List Int).getD u117.toNat 0))).length=8:=by rw [List.length_set];exact lh116
   refine nx hK133 ?_
   apply wp_region_lit
   refine sv (vI iS (w64 (u117+1))) hk rfl rfl rfl fun a hk=>mv hk rfl fun a hk=>?_
   show wpList _ _ _ [] _ _
   refine wpList_nil ?_
   obtain rfl:=osi H
   obtain ⟨m142,hmm142,h129⟩:=h129
   show ∃ n',n'<_∧I126 n' _ _
   refine ⟨m142,hmm142,?_⟩
   rw [hI126]
   exact ⟨_,_,_,h129,(hk.al rfl),(hs.pick [(3,3),(9,9),(1,1)] rfl),o140,lh141⟩
  have hk:=hk.lit 106 c132 rfl
  refine cnd_false hk rfl rfl <| wp_exit ?_
  obtain rfl:=osi H
  show R125 _ _
  rw [hR125]
  exact ⟨_,_,h129.symm,(hk.al rfl),(hs.pick [(3,3),(9,9),(1,1)] rfl),o115,lh116⟩
 intro a w hR0
 rw [hR125] at hR0
 obtain ⟨u118,k119,rfl,hk,hs,o120,lh121⟩:=hR0
 have H:=HL124
 try dsimp only at H
 refine hK108 _ _ ?_
 have hs:=hs.pick [(3,3),(9,9),(1,1)] rfl
 refine sq fun _ hK143=>sr fun _ hK144=>mv hk rfl fun a hk=>nx hK144 ?_
 obtain ⟨o156,h157,HL158⟩:=bind_some H
 clear H
 obtain ⟨R159,hR159⟩:=nm fun a w=>∃ (u152:List Int) (k153:Chunk),o156 = .out u152∧Kn [(0,(vP (some ⟨b0_,0,none⟩))),(11,(vP (some ⟨b104,0,none⟩)))] 215 a∧Sat (blks [(1,[(b0_,.cells #[vI iS x0.H0,vI iS x0.H1,vI iS x0.H2,vI iS x0.H3,vI iS x0.H4,vI iS x0.H5,vI iS x0.H6,vI iS x0.H7,vS x0.Buf,vI iS x0.N] 79 (0,0))])]) w0 w [(2,k2_)] [(9,k153),(1,[(b0_,.cells #[vI iS x0.H0,vI iS x0.H1,vI iS x0.H2,vI iS x0.H3,vI iS x0.H4,vI iS x0.H5,vI iS x0.H6,vI iS x0.H7,vS x0.Buf,vI iS x0.N] 79 (0,0))])]∧Own (Lay.int iU) 131 (some ⟨b104,0,none⟩) 8 u152 k153∧u152.length=8
 refine wp_cutq R159 ?_ ?_
 ·refine wp_block ?_
  obtain ⟨fu161,h157⟩:=loopO_some h157
  obtain ⟨I160,hI160⟩:=nm fun fu a w=>∃ (u147:List Int) (u151:Int) (k148:Chunk),loopN (fun s=>impl_Hash_block.s3 l2 u53 s.1 s.2) fu (u147,u151)=some o156∧Kn [(0,(vP (some ⟨b0_,0,none⟩))),(2,(vP (some ⟨b2_,0,none⟩))),(6,(vP (some ⟨b2,0,none⟩))),(11,(vP (some ⟨b104,0,none⟩))),(114,(vI iS u151))] 215 a∧Sat (blks [(1,[(b0_,.cells #[vI iS x0.H0,vI iS x0.H1,vI iS x0.H2,vI iS x0.H3,vI iS x0.H4,vI iS x0.H5,vI iS x0.H6,vI iS x0.H7,vS x0.Buf,vI iS x0.N] 79 (0,0))])]) w0 w [(2,k2_)] [(3,k54),(9,k148),(1,[(b0_,.cells #[vI iS x0.H0,vI iS x0.H1,vI iS x0.H2,vI iS x0.H3,vI iS x0.H4,vI iS x0.H5,vI iS x0.H6,vI iS x0.H7,vS x0.Buf,vI iS x0.N] 79 (0,0))])]∧Own (Lay.int iU) 131 (some ⟨b104,0,none⟩) 8 u147 k148∧u147.length=8
  refine wp_loop_ghost I160 fu161 ?_ ?_
  ·rw [hI160]
   exact ⟨_,_,_,h157,(hk.al rfl),(hs.pick [(3,3),(9,9),(1,1)] rfl),o120,lh121⟩
  clear h157 hk hs
  intro fu161 a w hI0
  rw [hI160] at hI0
  obtain ⟨u147,u151,k148,hi,hk,hs,o149,lh150⟩:=hI0
  obtain ⟨x162,H,h163⟩:=loop_round hi
  try dsimp only at H
  unfold impl_Hash_block.s3 at H
  refine sr fun _ hK164=>sv (.bool (decide (u151<64))) hk rfl rfl rfl fun a hk=>nx hK164 <| sq fun _ hK165=>?_
  rcases cond_some H with ⟨c166,H⟩ | ⟨c166,H⟩
  ·have hk:=hk.lit 115 c166 rfl
   refine cnd_true hk rfl rfl <| wp_skip <| hK165 _ _ <| sq fun _ hK167=>wp_block ?_
   refine sr fun _ hK168=>mv hk rfl fun a hk=>mv hk rfl fun a hk=>nx hK168 <| sq fun _ hK169=>wp_region_tree (.q 0 (.q 1 (.q 2 (.q 3 (.q 4 (.q 5 (.q 6 (.q 7 (.q 8 (.q 9 (.q 10 (.q 11 (.alt 12 (.alt 13 (.alt 14 (.alt 15 (.alt 16 (.last 17) .stop) .stop) .stop) .stop) .stop))))))))))))) mo (by kernel_rfl) (hs.pick [(3,3),(9,9),(1,1)] rfl) fun _=>?_
   have hs:=hs.drew
   obtain ⟨c171,H⟩:=ite_no H
   obtain ⟨b172,q173,hAc171⟩:=(o149.view).some_ (0:Int) c171.1 (by rw [lh150];exact c171.2)
   refine tqst _ hk rfl rfl rfl rfl (fun w hs=>sia rfl hk rfl rfl rfl rfl un131 sz110 c171.1 c171.2 hAc171 fun a hk=>qe hk) fun a hk=>?_
   obtain ⟨_,rfl,e174⟩:=(o149.view).at_ 0 (0:Int) c171.1 (by rw [lh150];exact c171.2)
   refine tqst _ hk rfl rfl rfl rfl (fun w hs=>sl (v:=(vI iU (u147.getD (0:Int).toNat 0))) rfl hk rfl rfl rfl ag110 ((e174 0 _ rfl).cell (hs.hasG (k:=9) rfl)) fun a hk=>qe hk) fun a hk=>?_
   obtain ⟨c175,H⟩:=ite_no H
   obtain ⟨b176,q177,hAc175⟩:=(o149.view).some_ (1:Int) c175.1 (by rw [lh150];exact c175.2)
   refine tqst _ hk rfl rfl rfl rfl (fun w hs=>sia rfl hk rfl rfl rfl rfl un131 sz110 c175.1 c175.2 hAc175 fun a hk=>qe hk) fun a hk=>?_
   obtain ⟨_,rfl,e178⟩:=(o149.view).at_ 0 (1:Int) c175.1 (by rw [lh150];exact c175.2)
   refine tqst _ hk rfl rfl rfl rfl (fun w hs=>sl (v:=(vI iU (u147.getD (1:Int).toNat 0))) rfl hk rfl rfl rfl ag110 ((e178 0 _ rfl).cell (hs.hasG (k:=9) rfl)) fun a hk=>qe hk) fun a hk=>?_
   obtain ⟨c179,H⟩:=ite_no H
   obtain ⟨b180,q181,hAc179⟩:=(o149.view).some_ (2:Int) c179.1 (by rw [lh150];exact c179.2)
   refine tqst _ hk rfl rfl rfl rfl (fun w hs=>sia rfl hk rfl rfl rfl rfl un131 sz110 c179.1 c179.2 hAc179 fun a hk=>qe hk) fun a hk=>?_
   obtain ⟨_,rfl,e182⟩:=(o149.view).at_ 0 (2:Int) c179.1 (by rw [lh150];exact c179.2)
   refine tqst _ hk rfl rfl rfl rfl (fun w hs=>sl (v:=(vI iU (u147.getD (2:Int).toNat 0))) rfl hk rfl rfl rfl ag110 ((e182 0 _ rfl).cell (hs.hasG (k:=9) rfl)) fun a hk=>qe hk) fun a hk=>?_
   obtain ⟨c183,H⟩:=ite_no H
   obtain ⟨b184,q185,hAc183⟩:=(o149.view).some_ (4:Int) c183.1 (by rw [lh150];exact c183.2)
   refine tqst _ hk rfl rfl rfl rfl (fun w hs=>sia rfl hk rfl rfl rfl rfl un131 sz110 c183.1 c183.2 hAc183 fun a hk=>qe hk) fun a hk=>?_
   obtain ⟨_,rfl,e186⟩:=(o149.view).at_ 0 (4:Int) c183.1 (by rw [lh150];exact c183.2)
   refine tqst _ hk rfl rfl rfl rfl (fun w hs=>sl (v:=(vI iU (u147.getD (4:Int).toNat 0))) rfl hk rfl rfl rfl ag110 ((e186 0 _ rfl).cell (hs.hasG (k:=9) rfl)) fun a hk=>qe hk) fun a hk=>?_
   obtain ⟨c187,H⟩:=ite_no H
   obtain ⟨b188,q189,hAc187⟩:=(o149.view).some_ (5:Int) c187.1 (by rw [lh150];exact c187.2)
   refine tqst _ hk rfl rfl rfl rfl (fun w hs=>sia rfl hk rfl rfl rfl rfl un131 sz110 c187.1 c187.2 hAc187 fun a hk=>qe hk) fun a hk=>?_
   obtain ⟨_,rfl,e190⟩:=(o149.view).at_ 0 (5:Int) c187.1 (by rw [lh150];exact c187.2)
   refine tqst _ hk rfl rfl rfl rfl (fun w hs=>sl (v:=(vI iU (u147.getD (5:Int).toNat 0))) rfl hk rfl rfl rfl ag110 ((e190 0 _ rfl).cell (hs.hasG (k:=9) rfl)) fun a hk=>qe hk) fun a hk=>?_
   obtain ⟨c191,H⟩:=ite_no H
   obtain ⟨b192,q193,hAc191⟩:=(o149.view).some_ (6:Int) c191.1 (by rw [lh150];exact c191.2)
   refine tqst _ hk rfl rfl rfl rfl (fun w hs=>sia rfl hk rfl rfl rfl rfl un131 sz110 c191.1 c191.2 hAc191 fun a hk=>qe hk) fun a hk=>?_
   obtain ⟨_,rfl,e194⟩:=(o149.view).at_ 0 (6:Int) c191.1 (by rw [lh150];exact c191.2)
   refine tqst _ hk rfl rfl rfl rfl (fun w hs=>sl (v:=(vI iU (u147.getD (6:Int).toNat 0))) rfl hk rfl rfl rfl ag110 ((e194 0 _ rfl).cell (hs.hasG (k:=9) rfl)) fun a hk=>qe hk) fun a hk=>tss hs hk rfl rfl fun _ hK_r170_12 w hs=>mv hk rfl fun a hk=>se (hs.pick [(3,3),(9,9),(1,1)] rfl) hk (hK_r170_12 _ _ ?_)
   refine tss hs hk rfl rfl fun _ hK_r170_13 w hs=>mv hk rfl fun a hk=>se (hs.pick [(3,3),(9,9),(1,1)] rfl) hk (hK_r170_13 _ _ ?_)
   refine tss hs hk rfl rfl fun _ hK_r170_14 w hs=>mv hk rfl fun a hk=>se (hs.pick [(3,3),(9,9),(1,1)] rfl) hk (hK_r170_14 _ _ ?_)
   refine tss hs hk rfl rfl fun _ hK_r170_15 w hs=>mv hk rfl fun a hk=>se (hs.pick [(3,3),(9,9),(1,1)] rfl) hk (hK_r170_15 _ _ ?_)
   refine tss hs hk rfl rfl fun _ hK_r170_16 w hs=>mv hk rfl fun a hk=>se (hs.pick [(3,3),(9,9),(1,1)] rfl) hk (hK_r170_16 _ _ ?_)
   refine tlst hk rfl rfl fun K_r170_17 hK_r170_17 w hF=>?_
   have hs:=hs.f hF
   refine mv hk rfl fun a hk=>se trivial hk (hK_r170_17 _ _ fun w hF=>?_)
   have hs:=hs.f hF
   refine hK169 _ _ <| sq fun _ hK195=>wp_region_tree (.q 0 (.q 1 (.q 2 (.q 3 (.q 4 (.q 5 (.q 6 (.q 7 (.q 8 (.q 9 (.q 10 (.q 11 (.q 12 (.q 13 (.q 14 (.q 15 (.q 16 (.q 17 (.q 18 (.q 19 (.q 20 (.q 21 (.q 22 (.q 23 (.q 24 (.q 25 (.alt 26 (.alt 27 (.alt 28 (.alt 29 (.last 30) .stop) .stop) .stop) .stop))))))))))))))))))))))))))) mo (by kernel_rfl) (hs.pick [(3,3),(9,9),(1,1)] rfl) fun _=>?_
   have hs:=hs.drew
   obtain ⟨c197,H⟩:=ite_no H
   obtain ⟨b198,q199,hAc197⟩:=(o149.view).some_ (7:Int) c197.1 (by rw [lh150];exact c197.2)
   refine tqst _ hk rfl rfl rfl rfl (fun w hs=>sia rfl hk rfl rfl rfl rfl un131 sz110 c197.1 c197.2 hAc197 fun a hk=>qe hk) fun a hk=>?_
   obtain ⟨_,rfl,e200⟩:=(o149.view).at_ 0 (7:Int) c197.1 (by rw [lh150];exact c197.2)
   refine tqst _ hk rfl rfl rfl rfl (fun w hs=>sl (v:=(vI iU (u147.getD (7:Int).toNat 0))) rfl hk rfl rfl rfl ag110 ((e200 0 _ rfl).cell (hs.hasG (k:=9) rfl)) fun a hk=>qe hk) fun a hk=>tqm hk rfl fun a hk=>?_
   obtain ⟨y201,h202,H⟩:=bind_some H
   refine tqst (vI iU y201) hk rfl rfl rfl rfl (fun w hs=>sc rfl en105 hk rfl rfl rfl (impl_turned_t _ (u147.getD (4:Int).toNat 0) 6 _ h202) fun _ w hR a hk=>qc hR hk) fun a hk=>tqm hk rfl fun a hk=>?_
   obtain ⟨y203,h204,H⟩:=bind_some H
   refine tqst (vI iU y203) hk rfl rfl rfl rfl (fun w hs=>sc rfl en105 hk rfl rfl rfl (impl_turned_t _ (u147.getD (4:Int).toNat 0) 11 _ h204) fun _ w hR a hk=>qc hR hk) fun a hk=>tqv (vI iU (bix3 y201 y203)) hk rfl rfl (fun _=>rfl) fun a hk=>tqm hk rfl fun a hk=>?_
   obtain ⟨y205,h206,H⟩:=bind_some H
   refine tqst (vI iU y205) hk rfl rfl rfl rfl (fun w hs=>sc rfl en105 hk rfl rfl rfl (impl_turned_t _ (u147.getD (4:Int).toNat 0) 25 _ h206) fun _ w hR a hk=>qc hR hk) fun a hk=>tqv (vI iU (bix3 (bix3 y201 y203) y205)) hk rfl rfl (fun _=>rfl) fun a hk=>tqv (vI iU (wR iU ((u147.getD (7:Int).toNat 0)+(bix3 (bix3 y201 y203) y205)))) hk rfl rfl (fun _=>rfl) fun a hk=>tqm hk rfl fun a hk=>tqm hk rfl fun a hk=>tqv (vI iU (bia3 (u147.getD (4:Int).toNat 0) (u147.getD (5:Int).toNat 0))) hk rfl rfl (fun _=>rfl) fun a hk=>tqm hk rfl fun a hk=>tqv (vI iU (bix3 4294967295 (u147.getD (4:Int).toNat 0))) hk rfl rfl (fun _=>rfl) fun a hk=>tqm hk rfl fun a hk=>tqv (vI iU (bia3 (bix3 4294967295 (u147.getD (4:Int).toNat 0)) (u147.getD (6:Int).toNat 0))) hk rfl rfl (fun _=>rfl) fun a hk=>tqv (vI iU (bix3 (bia3 (u147.getD (4:Int).toNat 0) (u147.getD (5:Int).toNat 0)) (bia3 (bix3 4294967295 (u147.getD (4:Int).toNat 0)) (u147.getD (6:Int).toNat 0)))) hk rfl rfl (fun _=>rfl) fun a hk=>tqv (vI iU (wR iU ((wR iU ((u147.getD (7:Int).toNat 0)+(bix3 (bix3 y201 y203) y205)))+(bix3 (bia3 (u147.getD (4:Int).toNat 0) (u147.getD (5:Int).toNat 0)) (bia3 (bix3 4294967295 (u147.getD (4:Int).toNat 0)) (u147.getD (6:Int).toNat 0)))))) hk rfl rfl (fun _=>rfl) fun a hk=>tqm hk rfl fun a hk=>tqm hk rfl fun a hk=>tqst _ hk rfl rfl rfl rfl (fun w hs=>snk rfl hk rfl rfl rfl fun a hk=>qe hk) fun a hk=>?_
   obtain ⟨c207,H⟩:=ite_no H
   obtain ⟨b208,q209,hAc207⟩:=(v2_).some_ u151 c207.1 (by rw [e2_];exact c207.2)
   refine tqst _ hk rfl rfl rfl rfl (fun w hs=>sia rfl hk rfl rfl rfl rfl un111 sz110 c207.1 c207.2 hAc207 fun a hk=>qe hk) fun a hk=>?_
   obtain ⟨_,rfl,e210⟩:=(v2_).at_ 0 u151 c207.1 (by rw [e2_];exact c207.2)
   refine tqst _ hk rfl rfl rfl rfl (fun w hs=>sl (v:=(vI iU (l2.getD u151.toNat 0))) rfl hk rfl rfl rfl ag110 ((e210 0 _ rfl).cell (hs.hasD (k:=2) rfl)) fun a hk=>qe hk) fun a hk=>tqv (vI iU (wR iU ((wR iU ((wR iU ((u147.getD (7:Int).toNat 0)+(bix3 (bix3 y201 y203) y205)))+(bix3 (bia3 (u147.getD (4:Int).toNat 0) (u147.getD (5:Int).toNat 0)) (bia3 (bix3 4294967295 (u147.getD (4:Int).toNat 0)) (u147.getD (6:Int).toNat 0)))))+(l2.getD u151.toNat 0)))) hk rfl rfl (fun _=>rfl) fun a hk=>tss hs hk rfl rfl fun _ hK_r196_26 w hs=>mv hk rfl fun a hk=>se (hs.pick [(3,3),(9,9),(1,1)] rfl) hk (hK_r196_26 _ _ ?_)
   refine tss hs hk rfl rfl fun _ hK_r196_27 w hs=>?_
   obtain ⟨c211,H⟩:=ite_no H
   obtain ⟨b212,q213,hAc211⟩:=(o55.view).some_ u151 c211.1 (by rw [lh56];exact c211.2)
   refine sia rfl hk rfl rfl rfl rfl un111 sz110 c211.1 c211.2 hAc211 fun a hk=>se (hs.pick [(3,3),(9,9),(1,1)] rfl) hk (hK_r196_27 _ _ ?_)
   refine tss hs hk rfl rfl fun _ hK_r196_28 w hs=>?_
   obtain ⟨_,rfl,e214⟩:=(o55.view).at_ 0 u151 c211.1 (by rw [lh56];exact c211.2)
   refine sl (v:=(vI iU (u53.getD u151.toNat 0))) rfl hk rfl rfl rfl ag110 ((e214 0 _ rfl).cell (hs.hasG (k:=3) rfl)) fun a hk=>se (hs.pick [(3,3),(9,9),(1,1)] rfl) hk (hK_r196_28 _ _ ?_)
   refine tss hs hk rfl rfl fun _ hK_r196_29 w hs=>sv (vI iU (wR iU ((wR iU ((wR iU ((wR iU ((u147.getD (7:Int).toNat 0)+(bix3 (bix3 y201 y203) y205)))+(bix3 (bia3 (u147.getD (4:Int).toNat 0) (u147.getD (5:Int).toNat 0)) (bia3 (bix3 4294967295 (u147.getD (4:Int).toNat 0)) (u147.getD (6:Int).toNat 0)))))+(l2.getD u151.toNat 0)))+(u53.getD u151.toNat 0)))) hk rfl rfl rfl fun a hk=>se (hs.pick [(3,3),(9,9),(1,1)] rfl) hk (hK_r196_29 _ _ ?_)
   refine tlst hk rfl rfl fun K_r196_30 hK_r196_30 w hF=>?_
   have hs:=hs.f hF
   refine mv hk rfl fun a hk=>se trivial hk (hK_r196_30 _ _ fun w hF=>?_)
   have hs:=hs.f hF
   refine hK195 _ _ <| sr fun _ hK215=>mv hk rfl fun a hk=>?_
   obtain ⟨y216,h217,H⟩:=bind_some H
   refine sc rfl en105 hk rfl rfl rfl (impl_turned_t _ (u147.getD (0:Int).toNat 0) 2 _ h217) ?_
   rintro _ w ⟨rfl,hG⟩ a hk
   have hs:=hs.call0 hG
   refine mv hk rfl fun a hk=>?_
   obtain ⟨y218,h219,H⟩:=bind_some H
   refine sc rfl en105 hk rfl rfl rfl (impl_turned_t _ (u147.getD (0:Int).toNat 0) 13 _ h219) ?_
   rintro _ w ⟨rfl,hG⟩ a hk
   have hs:=hs.call0 hG
   refine sv (vI iU (bix3 y216 y218)) hk rfl rfl rfl fun a hk=>mv hk rfl fun a hk=>?_
   obtain ⟨y220,h221,H⟩:=bind_some H
   refine sc rfl en105 hk rfl rfl rfl (impl_turned_t _ (u147.getD (0:Int).toNat 0) 22 _ h221) ?_
   rintro _ w ⟨rfl,hG⟩ a hk
   have hs:=hs.call0 hG
   refine sv (vI iU (bix3 (bix3 y216 y218) y220)) hk rfl rfl rfl fun a hk=>mv hk rfl fun a hk=>mv hk rfl fun a hk=>sv (vI iU (bia3 (u147.getD (0:Int).toNat 0) (u147.getD (1:Int).toNat 0))) hk rfl rfl rfl fun a hk=>mv hk rfl fun a hk=>mv hk rfl fun a hk=>sv (vI iU (bia3 (u147.getD (0:Int).toNat 0) (u147.getD (2:Int).toNat 0))) hk rfl rfl rfl fun a hk=>sv (vI iU (bix3 (bia3 (u147.getD (0:Int).toNat 0) (u147.getD (1:Int).toNat 0)) (bia3 (u147.getD (0:Int).toNat 0) (u147.getD (2:Int).toNat 0)))) hk rfl rfl rfl fun a hk=>mv hk rfl fun a hk=>mv hk rfl fun a hk=>sv (vI iU (bia3 (u147.getD (1:Int).toNat 0) (u147.getD (2:Int).toNat 0))) hk rfl rfl rfl fun a hk=>sv (vI iU (bix3 (bix3 (bia3 (u147.getD (0:Int).toNat 0) (u147.getD (1:Int).toNat 0)) (bia3 (u147.getD (0:Int).toNat 0) (u147.getD (2:Int).toNat 0))) (bia3 (u147.getD (1:Int).toNat 0) (u147.getD (2:Int).toNat 0)))) hk rfl rfl rfl fun a hk=>sv (vI iU (wR iU ((bix3 (bix3 y216 y218) y220)+(bix3 (bix3 (bia3 (u147.getD (0:Int).toNat 0) (u147.getD (1:Int).toNat 0)) (bia3 (u147.getD (0:Int).toNat 0) (u147.getD (2:Int).toNat 0))) (bia3 (u147.getD (1:Int).toNat 0) (u147.getD (2:Int).toNat 0)))))) hk rfl rfl rfl fun a hk=>mv hk rfl fun a hk=>nx hK215 ?_
   apply wp_region_lit
   refine mv hk rfl fun a hk=>mv hk rfl fun a hk=>sv (vI iU (wR iU ((wR iU ((wR iU ((wR iU ((wR iU ((u147.getD (7:Int).toNat 0)+(bix3 (bix3 y201 y203) y205)))+(bix3 (bia3 (u147.getD (4:Int).toNat 0) (u147.getD (5:Int).toNat 0)) (bia3 (bix3 4294967295 (u147.getD (4:Int).toNat 0)) (u147.getD (6:Int).toNat 0)))))+(l2.getD u151.toNat 0)))+(u53.getD u151.toNat 0)))+(wR iU ((bix3 (bix3 y216 y218) y220)+(bix3 (bix3 (bia3 (u147.getD (0:Int).toNat 0) (u147.getD (1:Int).toNat 0)) (bia3 (u147.getD (0:Int).toNat 0) (u147.getD (2:Int).toNat 0))) (bia3 (u147.getD (1:Int).toNat 0) (u147.getD (2:Int).toNat 0)))))))) hk rfl rfl rfl fun a hk=>mv hk rfl fun a hk=>mv hk rfl fun a hk=>mv hk rfl fun a hk=>?_
   obtain ⟨c222,H⟩:=ite_no H
   obtain ⟨b223,q224,hAc222⟩:=(o149.view).some_ (3:Int) c222.1 (by rw [lh150];exact c222.2)
   refine sia rfl hk rfl rfl rfl rfl un131 sz110 c222.1 c222.2 hAc222 fun a hk=>?_
   obtain ⟨_,rfl,e225⟩:=(o149.view).at_ 0 (3:Int) c222.1 (by rw [lh150];exact c222.2)
   refine sl (v:=(vI iU (u147.getD (3:Int).toNat 0))) rfl hk rfl rfl rfl ag110 ((e225 0 _ rfl).cell (hs.hasG (k:=9) rfl)) fun a hk=>mv hk rfl fun a hk=>sv (vI iU (wR iU ((u147.getD (3:Int).toNat 0)+(wR iU ((wR iU ((wR iU ((wR iU ((u147.getD (7:Int).toNat 0)+(bix3 (bix3 y201 y203) y205)))+(bix3 (bia3 (u147.getD (4:Int).toNat 0) (u147.getD (5:Int).toNat 0)) (bia3 (bix3 4294967295 (u147.getD (4:Int).toNat 0)) (u147.getD (6:Int).toNat 0)))))+(l2.getD u151.toNat 0)))+(u53.getD u151.toNat 0)))))) hk rfl rfl rfl fun a hk=>mv hk rfl fun a hk=>mv hk rfl fun a hk=>mv hk rfl fun a hk=>sbd (pv:=[(0,(vI iU (wR iU ((wR iU ((wR iU ((wR iU ((wR iU ((u147.getD (7:Int).toNat 0)+(bix3 (bix3 y201 y203) y205)))+(bix3 (bia3 (u147.getD (4:Int).toNat 0) (u147.getD (5:Int).toNat 0)) (bia3 (bix3 4294967295 (u147.getD (4:Int).toNat 0)) (u147.getD (6:Int).toNat 0)))))+(l2.getD u151.toNat 0)))+(u53.getD u151.toNat 0)))+(wR iU ((bix3 (bix3 y216 y218) y220)+(bix3 (bix3 (bia3 (u147.getD (0:Int).toNat 0) (u147.getD (1:Int).toNat 0)) (bia3 (u147.getD (0:Int).toNat 0) (u147.getD (2:Int).toNat 0))) (bia3 (u147.getD (1:Int).toNat 0) (u147.getD (2:Int).toNat 0))))))))),(1,(vI iU (u147.getD (0:Int).toNat 0))),(2,(vI iU (u147.getD (1:Int).toNat 0))),(3,(vI iU (u147.getD (2:Int).toNat 0))),(4,(vI iU (wR iU ((u147.getD (3:Int).toNat 0)+(wR iU ((wR iU ((wR iU ((wR iU ((u147.getD (7:Int).toNat 0)+(bix3 (bix3 y201 y203) y205)))+(bix3 (bia3 (u147.getD (4:Int).toNat 0) (u147.getD (5:Int).toNat 0)) (bia3 (bix3 4294967295 (u147.getD (4:Int).toNat 0)) (u147.getD (6:Int).toNat 0)))))+(l2.getD u151.toNat 0)))+(u53.getD u151.toNat 0))))))),(5,(vI iU (u147.getD (4:Int).toNat 0))),(6,(vI iU (u147.getD (5:Int).toNat 0))),(7,(vI iU (u147.getD (6:Int).toNat 0)))]) rfl hk rfl rfl rfl (bd131_29 (wR iU ((wR iU ((wR iU ((wR iU ((wR iU ((u147.getD (7:Int).toNat 0)+(bix3 (bix3 y201 y203) y205)))+(bix3 (bia3 (u147.getD (4:Int).toNat 0) (u147.getD (5:Int).toNat 0)) (bia3 (bix3 4294967295 (u147.getD (4:Int).toNat 0)) (u147.getD (6:Int).toNat 0)))))+(l2.getD u151.toNat 0)))+(u53.getD u151.toNat 0)))+(wR iU ((bix3 (bix3 y216 y218) y220)+(bix3 (bix3 (bia3 (u147.getD (0:Int).toNat 0) (u147.getD (1:Int).toNat 0)) (bia3 (u147.getD (0:Int).toNat 0) (u147.getD (2:Int).toNat 0))) (bia3 (u147.getD (1:Int).toNat 0) (u147.getD (2:Int).toNat 0))))))) (u147.getD (0:Int).toNat 0) (u147.getD (1:Int).toNat 0) (u147.getD (2:Int).toNat 0) (wR iU ((u147.getD (3:Int).toNat 0)+(wR iU ((wR iU ((wR iU ((wR iU ((u147.getD (7:Int).toNat 0)+(bix3 (bix3 y201 y203) y205)))+(bix3 (bia3 (u147.getD (4:Int).toNat 0) (u147.getD (5:Int).toNat 0)) (bia3 (bix3 4294967295 (u147.getD (4:Int).toNat 0)) (u147.getD (6:Int).toNat 0)))))+(l2.getD u151.toNat 0)))+(u53.getD u151.toNat 0))))) (u147.getD (4:Int).toNat 0) (u147.getD (5:Int).toNat 0) (u147.getD (6:Int).toNat 0)) fun a hk=>?_
   have lh226:([(wR iU ((wR iU ((wR iU ((wR iU ((wR iU ((u147.getD (7:Int).toNat 0)+(bix3 (bix3 y201 y203) y205)))+(bix3 (bia3 (u147.getD (4:Int).toNat 0) (u147.getD (5:Int).toNat 0)) (bia3 (bix3 4294967295 (u147.getD (4:Int).toNat 0)) (u147.getD (6:Int).toNat 0)))))+(l2.getD u151.toNat 0)))+(u53.getD u151.toNat 0)))+(wR iU ((bix3 (bix3 y216 y218) y220)+(bix3 (bix3 (bia3 (u147.getD (0:Int).toNat 0) (u147.getD (1:Int).toNat 0)) (bia3 (u147.getD (0:Int).toNat 0) (u147.getD (2:Int).toNat 0))) (bia3 (u147.getD (1:Int).toNat 0) (u147.getD (2:Int).toNat 0))))))),(u147.getD (0:Int).toNat 0),(u147.getD (1:Int).toNat 0),(u147.getD (2:Int).toNat 0),(wR iU ((u147.getD (3:Int).toNat 0)+(wR iU ((wR iU ((wR iU ((wR iU ((u147.getD (7:Int).toNat 0)+(bix3 (bix3 y201 y203) y205)))+(bix3 (bia3 (u147.getD (4:Int).toNat 0) (u147.getD (5:Int).toNat 0)) (bia3 (bix3 4294967295 (u147.getD (4:Int).toNat 0)) (u147.getD (6:Int).toNat 0)))))+(l2.getD u151.toNat 0)))+(u53.getD u151.toNat 0))))),(u147.getD (4:Int).toNat 0),(u147.getD (5:Int).toNat 0),(u147.getD (6:Int).toNat 0)]:List Int).length=8:=rfl
   refine sswa 9 ([(wR iU ((wR iU ((wR iU ((wR iU ((wR iU ((u147.getD (7:Int).toNat 0)+(bix3 (bix3 y201 y203) y205)))+(bix3 (bia3 (u147.getD (4:Int).toNat 0) (u147.getD (5:Int).toNat 0)) (bia3 (bix3 4294967295 (u147.getD (4:Int).toNat 0)) (u147.getD (6:Int).toNat 0)))))+(l2.getD u151.toNat 0)))+(u53.getD u151.toNat 0)))+(wR iU ((bix3 (bix3 y216 y218) y220)+(bix3 (bix3 (bia3 (u147.getD (0:Int).toNat 0) (u147.getD (1:Int).toNat 0)) (bia3 (u147.getD (0:Int).toNat 0) (u147.getD (2:Int).toNat 0))) (bia3 (u147.getD (1:Int).toNat 0) (u147.getD (2:Int).toNat 0))))))),(u147.getD (0:Int).toNat 0),(u147.getD (1:Int).toNat 0),(u147.getD (2:Int).toNat 0),(wR iU ((u147.getD (3:Int).toNat 0)+(wR iU ((wR iU ((wR iU ((wR iU ((u147.getD (7:Int).toNat 0)+(bix3 (bix3 y201 y203) y205)))+(bix3 (bia3 (u147.getD (4:Int).toNat 0) (u147.getD (5:Int).toNat 0)) (bia3 (bix3 4294967295 (u147.getD (4:Int).toNat 0)) (u147.getD (6:Int).toNat 0)))))+(l2.getD u151.toNat 0)))+(u53.getD u151.toNat 0))))),(u147.getD (4:Int).toNat 0),(u147.getD (5:Int).toNat 0),(u147.getD (6:Int).toNat 0)]:List Int) hs rfl o149 lh150 lh226 rfl rfl hk rfl rfl rfl rfl sz131 fun k227 w a hk o228 hs=>nx hK167 ?_
   have hs:=hs.pick [(3,3),(9,9),(1,1)] rfl
   apply wp_region_lit
   refine sv (vI iS (w64 (u151+1))) hk rfl rfl rfl fun a hk=>mv hk rfl fun a hk=>?_
   show wpList _ _ _ [] _ _
   refine wpList_nil ?_
   obtain rfl:=osi H
   obtain ⟨m229,hmm229,h163⟩:=h163
   show ∃ n',n'<_∧I160 n' _ _
   refine ⟨m229,hmm229,?_⟩
   rw [hI160]
   exact ⟨_,_,_,h163,(hk.al rfl),(hs.pick [(3,3),(9,9),(1,1)] rfl),o228,lh226⟩
  have hk:=hk.lit 115 c166 rfl
  refine cnd_false hk rfl rfl <| wp_exit ?_
  obtain rfl:=osi H
  show R159 _ _
  rw [hR159]
  exact ⟨_,_,h163.symm,(hk.al rfl),(hs.pick [(9,9),(1,1)] rfl),o149,lh150⟩
 intro a w hR0
 rw [hR159] at hR0
 obtain ⟨u152,k153,rfl,hk,hs,o154,lh155⟩:=hR0
 have H:=HL158
 try dsimp only at H
 refine hK143 _ _ <| sr fun _ hK230=>slna (k:=9) hs rfl o154 lh155 rfl hk rfl rfl rfl ag131 sz131 fun a hk=>mv hk rfl fun a hk=>nx hK230 ?_
 obtain ⟨o250,h251,HL252⟩:=bind_some H
 clear H
 obtain ⟨R253,hR253⟩:=nm fun a w=>∃ (u242:Int) (u243:Int) (u244:Int) (u245:Int) (u246:Int) (u247:Int) (u248:Int) (u249:Int),o250 = .out (u242,u243,u244,u245,u246,u247,u248,u249)∧Kn [(0,(vP (some ⟨b0_,0,none⟩)))] 215 a∧Sat (blks [(1,[(b0_,.cells #[vI iS x0.H0,vI iS x0.H1,vI iS x0.H2,vI iS x0.H3,vI iS x0.H4,vI iS x0.H5,vI iS x0.H6,vI iS x0.H7,vS x0.Buf,vI iS x0.N] 79 (0,0))])]) w0 w [(2,k2_)] [(1,[(b0_,.cells #[vI iS u242,vI iS u243,vI iS u244,vI iS u245,vI iS u246,vI iS u247,vI iS u248,vI iS u249,vS x0.Buf,vI iS x0.N] 79 (0,0))])]
 refine wp_cutq R253 ?_ ?_
 ·refine wp_block ?_
  obtain ⟨fu255,h251⟩:=loopO_some h251
  obtain ⟨I254,hI254⟩:=nm fun fu a w=>∃ (u233:Int) (u234:Int) (u235:Int) (u236:Int) (u237:Int) (u238:Int) (u239:Int) (u240:Int) (u241:Int),loopN (fun s=>impl_Hash_block.s4 u152 s.1 s.2.1 s.2.2.1 s.2.2.2.1 s.2.2.2.2.1 s.2.2.2.2.2.1 s.2.2.2.2.2.2.1 s.2.2.2.2.2.2.2.1 s.2.2.2.2.2.2.2.2) fu (u233,u234,u235,u236,u237,u238,u239,u240,u241)=some o250∧Kn [(0,(vP (some ⟨b0_,0,none⟩))),(194,(aggI .u32 u152)),(195,(vI iS u233))] 215 a∧Sat (blks [(1,[(b0_,.cells #[vI iS x0.H0,vI iS x0.H1,vI iS x0.H2,vI iS x0.H3,vI iS x0.H4,vI iS x0.H5,vI iS x0.H6,vI iS x0.H7,vS x0.Buf,vI iS x0.N] 79 (0,0))])]) w0 w [(2,k2_)] [(1,[(b0_,.cells #[vI iS u234,vI iS u235,vI iS u236,vI iS u237,vI iS u238,vI iS u239,vI iS u240,vI iS u241,vS x0.Buf,vI iS x0.N] 79 (0,0))])]
  refine wp_loop_ghost I254 fu255 ?_ ?_
  ·rw [hI254]
   exact ⟨_,_,_,_,_,_,_,_,_,h251,(hk.al rfl),(hs.pick [(1,1)] rfl)⟩
  clear h251 hk hs
  intro fu255 a w hI0
  rw [hI254] at hI0
  obtain ⟨u233,u234,u235,u236,u237,u238,u239,u240,u241,hi,hk,hs⟩:=hI0
  obtain ⟨x256,H,h257⟩:=loop_round hi
  try dsimp only at H
  unfold impl_Hash_block.s4 at H
  refine sr fun _ hK258=>sv (.bool (decide (u233<8))) hk rfl rfl rfl fun a hk=>nx hK258 <| sq fun _ hK259=>?_
  rcases cond_some H with ⟨c260,H⟩ | ⟨c260,H⟩
  ·have hk:=hk.lit 196 c260 rfl
   refine cnd_true hk rfl rfl <| wp_skip <| hK259 _ _ <| sq fun _ hK261=>wp_block ?_
   refine sr fun _ hK262=>mv hk rfl fun a hk=>?_
   obtain ⟨c263,H⟩:=ite_no H
   refine sixa rfl hk rfl rfl rfl rfl un131 sz110 ag110 lh155 c263.1 c263.2 fun a hk=>mv hk rfl fun a hk=>mv hk rfl fun a hk=>nx hK262 <| wp_region_tree (.q 0 (.q 1 (.q 2 (.q 3 (.q 4 (.q 5 (.q 6 (.q 9 (.q 12 (.q 13 (.alt 7 (.alt 8 (.alt 10 (.alt 11 (.alt 14 (.alt 15 .done .stop) .stop) .stop) .stop) .stop) .stop))))))))))) mo (by kernel_rfl) (hs.pick [] rfl) fun _=>?_
   have hs:=hs.drew
   refine tqm hk rfl fun a hk=>tqm hk rfl fun a hk=>tqm hk rfl fun a hk=>tqm hk rfl fun a hk=>tqst _ hk rfl rfl rfl rfl (fun w hs=>snk rfl hk rfl rfl rfl fun a hk=>qe hk) fun a hk=>tqst _ hk rfl rfl rfl rfl (fun w hs=>sf ⟨b0_,0,none⟩ rfl hk rfl rfl rfl fd79_0 rfl fun a hk=>qe hk) fun a hk=>?_
   obtain ⟨c265,H⟩:=ite_no H
   refine tqst _ hk rfl rfl rfl rfl (fun w hs=>sia rfl hk rfl rfl rfl rfl un77 sz3 c265.1 c265.2 rfl fun a hk=>qe hk) fun a hk=>tqm hk rfl fun a hk=>tqst _ hk rfl rfl rfl rfl (fun w hs=>snk rfl hk rfl rfl rfl fun a hk=>qe hk) fun a hk=>tqst _ hk rfl rfl rfl rfl (fun w hs=>sf ⟨b0_,0,none⟩ rfl hk rfl rfl rfl fd79_0 rfl fun a hk=>qe hk) fun a hk=>tss hs hk rfl rfl fun _ hK_r264_7 w hs=>slBE (k:=1) (ik:=.i64) (vs:=[vI iS u234,vI iS u235,vI iS u236,vI iS u237,vI iS u238,vI iS u239,vI iS u240,vI iS u241,vS x0.Buf,vI iS x0.N]) ([u234,u235,u236,u237,u238,u239,u240,u241]:List Int) hs rfl rfl rfl rfl hk rfl rfl rfl ag3 c265.1 c265.2 fun a hk=>se (hs.pick [] rfl) hk (hK_r264_7 _ _ ?_)
   refine tss hs hk rfl rfl fun _ hK_r264_8 w hs=>scn rfl hk rfl rfl rfl un110 un3 fun a hk=>se (hs.pick [] rfl) hk (hK_r264_8 _ _ ?_)
   refine tss hs hk rfl rfl fun _ hK_r264_10 w hs=>sv (vI iU (wR iU ((wR iU (([u234,u235,u236,u237,u238,u239,u240,u241]:List Int).getD u233.toNat 0))+(u152.getD u233.toNat 0)))) hk rfl rfl rfl fun a hk=>se (hs.pick [] rfl) hk (hK_r264_10 _ _ ?_)
   refine tss hs hk rfl rfl fun _ hK_r264_11 w hs=>scn rfl hk rfl rfl rfl un3 un110 fun a hk=>se (hs.pick [] rfl) hk (hK_r264_11 _ _ ?_)
   refine tss hs hk rfl rfl fun _ hK_r264_14 w hs=>?_
   obtain ⟨c266,H⟩:=ite_no H
   refine sia rfl hk rfl rfl rfl rfl un77 sz3 c266.1 c266.2 rfl fun a hk=>se (hs.pick [] rfl) hk (hK_r264_14 _ _ ?_)
   refine tss hs hk rfl rfl fun _ hK_r264_15 w hs=>ssBE (vs:=[vI iS u234,vI iS u235,vI iS u236,vI iS u237,vI iS u238,vI iS u239,vI iS u240,vI iS u241,vS x0.Buf,vI iS x0.N]) (vs':=[vI iS ((([u234,u235,u236,u237,u238,u239,u240,u241]:List Int).set u233.toNat (wR iS (wR iU ((wR iU (([u234,u235,u236,u237,u238,u239,u240,u241]:List Int).getD u233.toNat 0))+(u152.getD u233.toNat 0))))).getD 0 0),vI iS ((([u234,u235,u236,u237,u238,u239,u240,u241]:List Int).set u233.toNat (wR iS (wR iU ((wR iU (([u234,u235,u236,u237,u238,u239,u240,u241]:List Int).getD u233.toNat 0))+(u152.getD u233.toNat 0))))).getD 1 0),vI iS ((([u234,u235,u236,u237,u238,u239,u240,u241]:List Int).set u233.toNat (wR iS (wR iU ((wR iU (([u234,u235,u236,u237,u238,u239,u240,u241]:List Int).getD u233.toNat 0))+(u152.getD u233.toNat 0))))).getD 2 0),vI iS ((([u234,u235,u236,u237,u238,u239,u240,u241]:List Int).set u233.toNat (wR iS (wR iU ((wR iU (([u234,u235,u236,u237,u238,u239,u240,u241]:List Int).getD u233.toNat 0))+(u152.getD u233.toNat 0))))).getD 3 0),vI iS ((([u234,u235,u236,u237,u238,u239,u240,u241]:List Int).set u233.toNat (wR iS (wR iU ((wR iU (([u234,u235,u236,u237,u238,u239,u240,u241]:List Int).getD u233.toNat 0))+(u152.getD u233.toNat 0))))).getD 4 0),vI iS ((([u234,u235,u236,u237,u238,u239,u240,u241]:List Int).set u233.toNat (wR iS (wR iU ((wR iU (([u234,u235,u236,u237,u238,u239,u240,u241]:List Int).getD u233.toNat 0))+(u152.getD u233.toNat 0))))).getD 5 0),vI iS ((([u234,u235,u236,u237,u238,u239,u240,u241]:List Int).set u233.toNat (wR iS (wR iU ((wR iU (([u234,u235,u236,u237,u238,u239,u240,u241]:List Int).getD u233.toNat 0))+(u152.getD u233.toNat 0))))).getD 6 0),vI iS ((([u234,u235,u236,u237,u238,u239,u240,u241]:List Int).set u233.toNat (wR iS (wR iU ((wR iU (([u234,u235,u236,u237,u238,u239,u240,u241]:List Int).getD u233.toNat 0))+(u152.getD u233.toNat 0))))).getD 7 0),vS x0.Buf,vI iS x0.N]) 1 (ik:=.i64) ([u234,u235,u236,u237,u238,u239,u240,u241]:List Int) hs rfl rfl rfl rfl hk rfl rfl rfl rfl sz3 c266.1 c266.2 rfl rfl fun w a hk hs=>se (hs.pick [] rfl) hk (hK_r264_15 _ _ ?_)
   refine wtl_nil fun w hF _=>?_
   have hs:=hs.f hF
   refine hK261 _ _ ?_
   apply wp_region_lit
   refine sv (vI iS (w64 (u233+1))) hk rfl rfl rfl fun a hk=>mv hk rfl fun a hk=>?_
   show wpList _ _ _ [] _ _
   refine wpList_nil ?_
   obtain rfl:=osi H
   obtain ⟨m267,hmm267,h257⟩:=h257
   show ∃ n',n'<_∧I254 n' _ _
   refine ⟨m267,hmm267,?_⟩
   rw [hI254]
   exact ⟨_,_,_,_,_,_,_,_,_,h257,(hk.al rfl),(hs.pick [(1,1)] rfl)⟩
  have hk:=hk.lit 196 c260 rfl
  refine cnd_false hk rfl rfl <| wp_exit ?_
  obtain rfl:=osi H
  show R253 _ _
  rw [hR253]
  exact ⟨_,_,_,_,_,_,_,_,h257.symm,(hk.al rfl),(hs.pick [(1,1)] rfl)⟩
 intro a w hR0
 rw [hR253] at hR0
 obtain ⟨u242,u243,u244,u245,u246,u247,u248,u249,rfl,hk,hs⟩:=hR0
 have H:=HL252
 try dsimp only at H
 obtain rfl:=osi H
 exact fin0 hk _ [] rfl trivial ⟨rfl,(hs.pick [(0,1)] rfl).dnil⟩
noncomputable def impl_Hash_more.s0 (y5:(List Int)) (u20:ByteArray) (u21:Int) (u22:Int) (u23:Int) (u24:Int) (u25:Int) (u26:Int) (u27:Int) (u28:Int) (u29:ByteArray) (u30:Int):Option ((ByteArray×Int×Int×Int×Int×Int×Int×Int×Int×ByteArray×Int) ⊕ Ex (ByteArray×Int×Int×Int×Int×Int×Int×Int×Int×ByteArray×Int) (S_Hash)) :=
  (bif (decide ((u20.size:Int) ≥ 64)) then (if 0≤(64:Int)∧(64:Int)≤(u20.size:Int) then ((impl_Hash_block.f (⟨u21,u22,u23,u24,u25,u26,u27,u28,u29,u30⟩:S_Hash) (u20.extract 0 (64:Int).toNat) y5).bind fun y55=>(if 0≤(64:Int)∧(64:Int)≤(u20.size:Int) then (some (.inl ((u20.extract (64:Int).toNat u20.size),y55.1,y55.2.1,y55.2.2.1,y55.2.2.2.1,y55.2.2.2.2.1,y55.2.2.2.2.2.1,y55.2.2.2.2.2.2.1,y55.2.2.2.2.2.2.2.1,y55.2.2.2.2.2.2.2.2.1,y55.2.2.2.2.2.2.2.2.2))) else none)) else none) else (some (.inr (.out (u20,u21,u22,u23,u24,u25,u26,u27,u28,u29,u30)))))
noncomputable def impl_Hash_more.f (x0:S_Hash) (x1:ByteArray):Option (S_Hash) :=
  ((impl_constants.f).bind fun y5=>(if x0.Buf.size+x1.size≤1152921504606846976 then ((loopO (fun s=>impl_Hash_more.s0 y5 s.1 s.2.1 s.2.2.1 s.2.2.2.1 s.2.2.2.2.1 s.2.2.2.2.2.1 s.2.2.2.2.2.2.1 s.2.2.2.2.2.2.2.1 s.2.2.2.2.2.2.2.2.1 s.2.2.2.2.2.2.2.2.2.1 s.2.2.2.2.2.2.2.2.2.2) ((x0.Buf++x1),x0.H0,x0.H1,x0.H2,x0.H3,x0.H4,x0.H5,x0.H6,x0.H7,x0.Buf,(w64 (x0.N+(x1.size:Int))))).bind fun o=>match o with | .out (u31,u32,u33,u34,u35,u36,u37,u38,u39,u40,u41)=>(some (⟨u32,u33,u34,u35,u36,u37,u38,u39,u31,u41⟩:S_Hash)) | .ret r=>(some r)) else none))
theorem impl_Hash_more_t (w0:World) (x0:S_Hash) (x1:ByteArray) (r:S_Hash) (H:impl_Hash_more.f x0 x1=some r) :
    Calls Tryz.prog 65 #[.agg #[vI iS x0.H0,vI iS x0.H1,vI iS x0.H2,vI iS x0.H3,vI iS x0.H4,vI iS x0.H5,vI iS x0.H6,vI iS x0.H7,vS x0.Buf,vI iS x0.N],vS x1] w0 (Ret (fun v w=>v = .agg #[vI iS r.H0,vI iS r.H1,vI iS r.H2,vI iS r.H3,vI iS r.H4,vI iS r.H5,vI iS r.H6,vI iS r.H7,vS r.Buf,vI iS r.N]∧Sat [] w0 w [] [])):=by
 have hs:=sat0 w0 [] (by simp)
 unfold impl_Hash_more.f at H
 refine enter Tryz.func65 rfl Tryz.ntmps65 rfl fun a hk=>sr fun _ hK1=>sbx 1 hs rfl hk rfl rfl rfl rfl fun b2 w a hk hs=>salx 2 hs rfl hk rfl rfl ze79 rfl fun b3 w a hk hs=>nx hK1 <| sr fun _ hK4=>?_
 obtain ⟨y5,h6,H⟩:=bind_some H
 refine sc rfl en86 hk rfl rfl rfl (impl_constants_t _ _ h6) ?_
 rintro _ w ⟨rfl,lh7,hG⟩ a hk
 have hs:=hs.call0 hG
 refine sala 3 ((Lay.int iU)) (m:=64) (z:=0) (zc:=[vI iU 0]) hs rfl hk rfl rfl ze111 (by exact ⟨rfl,rfl⟩) rfl rfl rfl fun b8 k9 w a hk o10 hs=>?_
 have lh11:(List.replicate 64 (0:Int)).length=64:=List.length_replicate
 refine sswa 3 y5 hs rfl o10 lh11 lh7 rfl rfl hk rfl rfl rfl rfl sz111 fun k12 w a hk o13 hs=>nx hK4 <| sr fun _ hK14=>sf ⟨b2,9,none⟩ rfl hk rfl rfl rfl fd79_2 rfl fun a hk=>sl rfl hk rfl rfl rfl ag3 (box_cell hs (k:=1) rfl rfl) fun a hk=>mv hk rfl fun a hk=>sles rfl hk rfl rfl rfl un9 fun a hk=>sv (vI iS (w64 (x0.N+(x1.size:Int)))) hk rfl rfl rfl fun a hk=>sf ⟨b2,9,none⟩ rfl hk rfl rfl rfl fd79_2 rfl fun a hk=>ssx (cs':=#[vI iS x0.H0,vI iS x0.H1,vI iS x0.H2,vI iS x0.H3,vI iS x0.H4,vI iS x0.H5,vI iS x0.H6,vI iS x0.H7,vS x0.Buf,vI iS (w64 (x0.N+(x1.size:Int)))]) 1 hs rfl rfl hk rfl rfl rfl rfl sz3 rfl rfl rfl rfl fun w a hk hs=>nx hK14 <| sr fun _ hK15=>sf ⟨b2,8,none⟩ rfl hk rfl rfl rfl fd79_1 rfl fun a hk=>sl rfl hk rfl rfl rfl ag9 (box_cell hs (k:=1) rfl rfl) fun a hk=>mv hk rfl fun a hk=>?_
 obtain ⟨c16,H⟩:=ite_no H
 refine ssa rfl hk rfl rfl rfl rfl c16 fun a hk=>mv hk rfl fun a hk=>nx hK15 <| sq fun _ hK17=>?_
 obtain ⟨o42,h43,HL44⟩:=bind_some H
 clear H
 obtain ⟨R45,hR45⟩:=nm fun a w=>∃ (u31:ByteArray) (u32:Int) (u33:Int) (u34:Int) (u35:Int) (u36:Int) (u37:Int) (u38:Int) (u39:Int) (u40:ByteArray) (u41:Int),o42 = .out (u31,u32,u33,u34,u35,u36,u37,u38,u39,u40,u41)∧Kn [(1,(vS u31)),(2,(vP (some ⟨b2,0,none⟩))),(4,(vP (some ⟨b3,0,none⟩)))] 28 a∧Sat [] w0 w [] [(1,[(b2,.cells #[vI iS u32,vI iS u33,vI iS u34,vI iS u35,vI iS u36,vI iS u37,vI iS u38,vI iS u39,vS u40,vI iS u41] 79 (0,0))]),(2,[(b3,.cells #[vI iS 0,vI iS 0,vI iS 0,vI iS 0,vI iS 0,vI iS 0,vI iS 0,vI iS 0,vS ByteArray.empty,vI iS 0] 79 (0,0))])]
 refine wp_cutq R45 ?_ ?_
 ·refine wp_block ?_
  obtain ⟨fu47,h43⟩:=loopO_some h43
  obtain ⟨I46,hI46⟩:=nm fun fu a w=>∃ (u20:ByteArray) (u21:Int) (u22:Int) (u23:Int) (u24:Int) (u25:Int) (u26:Int) (u27:Int) (u28:Int) (u29:ByteArray) (u30:Int),loopN (fun s=>impl_Hash_more.s0 y5 s.1 s.2.1 s.2.2.1 s.2.2.2.1 s.2.2.2.2.1 s.2.2.2.2.2.1 s.2.2.2.2.2.2.1 s.2.2.2.2.2.2.2.1 s.2.2.2.2.2.2.2.2.1 s.2.2.2.2.2.2.2.2.2.1 s.2.2.2.2.2.2.2.2.2.2) fu (u20,u21,u22,u23,u24,u25,u26,u27,u28,u29,u30)=some o42∧Kn [(1,(vS u20)),(2,(vP (some ⟨b2,0,none⟩))),(4,(vP (some ⟨b3,0,none⟩))),(5,(vP (some ⟨b8,0,none⟩)))] 28 a∧Sat [] w0 w [] [(3,k12),(1,[(b2,.cells #[vI iS u21,vI iS u22,vI iS u23,vI iS u24,vI iS u25,vI iS u26,vI iS u27,vI iS u28,vS u29,vI iS u30] 79 (0,0))]),(2,[(b3,.cells #[vI iS 0,vI iS 0,vI iS 0,vI iS 0,vI iS 0,vI iS 0,vI iS 0,vI iS 0,vS ByteArray.empty,vI iS 0] 79 (0,0))])]
  refine wp_loop_ghost I46 fu47 ?_ ?_
  ·rw [hI46]
   exact ⟨_,_,_,_,_,_,_,_,_,_,_,h43,(hk.al rfl),(hs.pick [(3,3),(1,1),(2,2)] rfl)⟩
  clear h43 hk hs
  intro fu47 a w hI0
  rw [hI46] at hI0
  obtain ⟨u20,u21,u22,u23,u24,u25,u26,u27,u28,u29,u30,hi,hk,hs⟩:=hI0
  obtain ⟨x48,H,h49⟩:=loop_round hi
  try dsimp only at H
  unfold impl_Hash_more.s0 at H
  refine sq fun _ hK50=>sr fun _ hK51=>mv hk rfl fun a hk=>sles rfl hk rfl rfl rfl un9 fun a hk=>sv (.bool (decide ((u20.size:Int) ≥ 64))) hk rfl rfl rfl fun a hk=>nx hK51 ?_
  rcases cond_some H with ⟨c52,H⟩ | ⟨c52,H⟩
  ·have hk:=hk.lit 19 c52 rfl
   refine cnd_true hk rfl rfl <| wp_skip <| hK50 _ _ <| wp_block ?_
   refine sr fun _ hK53=>mv hk rfl fun a hk=>?_
   obtain ⟨c54,H⟩:=ite_no H
   refine ssl_h rfl hk rfl rfl rfl rfl un9 c54.1 c54.2 fun a hk=>?_
   obtain ⟨y55,h56,H⟩:=bind_some H
   refine sc rfl en87 hk rfl rfl rfl (impl_Hash_block_t _ b2 (⟨u21,u22,u23,u24,u25,u26,u27,u28,u29,u30⟩:S_Hash) (u20.extract 0 (64:Int).toNat) b8 y5 _ o13.view (hs.hasG (k:=3) rfl) lh7 ((hs.hand [(1,1)] rfl).dpick [(2,3)] rfl) _ h56) ?_
   rintro _ w ⟨rfl,hG⟩ a hk
   have hs:=hs.back [(1,1)] rfl hG [1] rfl
   refine nx hK53 ?_
   apply wp_region_lit
   refine mv hk rfl fun a hk=>?_
   obtain ⟨c57,H⟩:=ite_no H
   refine ssl_l rfl hk rfl rfl rfl rfl un9 c57.1 c57.2 fun a hk=>mv hk rfl fun a hk=>?_
   show wpList _ _ _ [] _ _
   refine wpList_nil ?_
   obtain rfl:=osi H
   obtain ⟨m58,hmm58,h49⟩:=h49
   show ∃ n',n'<_∧I46 n' _ _
   refine ⟨m58,hmm58,?_⟩
   rw [hI46]
   exact ⟨_,_,_,_,_,_,_,_,_,_,_,h49,(hk.al rfl),(hs.pick [(3,3),(1,1),(2,2)] rfl)⟩
  have hk:=hk.lit 19 c52 rfl
  refine cnd_false hk rfl rfl <| wp_exit ?_
  obtain rfl:=osi H
  show R45 _ _
  rw [hR45]
  exact ⟨_,_,_,_,_,_,_,_,_,_,_,h49.symm,(hk.al rfl),(hs.pick [(1,1),(2,2)] rfl)⟩
 intro a w hR0
 rw [hR45] at hR0
 obtain ⟨u31,u32,u33,u34,u35,u36,u37,u38,u39,u40,u41,rfl,hk,hs⟩:=hR0
 have H:=HL44
 try dsimp only at H
 refine hK17 _ _ <| sr fun _ hK59=>mv hk rfl fun a hk=>sf ⟨b2,8,none⟩ rfl hk rfl rfl rfl fd79_1 rfl fun a hk=>ssx (cs':=#[vI iS u32,vI iS u33,vI iS u34,vI iS u35,vI iS u36,vI iS u37,vI iS u38,vI iS u39,vS u31,vI iS u41]) 1 hs rfl rfl hk rfl rfl rfl rfl sz9 rfl rfl rfl rfl fun w a hk hs=>nx hK59 <| sr fun _ hK60=>sln [vI iS u32,vI iS u33,vI iS u34,vI iS u35,vI iS u36,vI iS u37,vI iS u38,vI iS u39,vS u31,vI iS u41] rfl hk rfl rfl rfl ag79 sz79 (box_cells hs (k:=1) rfl) fun a hk=>ssw 2 hs rfl rfl hk rfl rfl rfl rfl sz79 (by simp [Value.oneCell']) rfl fun w a hk hs=>nx hK60 <| wp_ret ?_
 obtain rfl:=osi H
 exact fin hk _ [(.agg #[vI iS u32,vI iS u33,vI iS u34,vI iS u35,vI iS u36,vI iS u37,vI iS u38,vI iS u39,vS u31,vI iS u41])] rfl ⟨⟨_,rfl,run_loadN ag79 sz79 (box_cells hs (k:=2) rfl)⟩,trivial⟩ ⟨rfl,(hs.pick [] rfl).dnil⟩
noncomputable def impl_Hash_sum.s0 (x0:S_Hash) (u12:ByteArray) (u13:Int):Option ((ByteArray×Int) ⊕ Ex (ByteArray) (ByteArray)) :=
  (bif (decide (u13 ≥ 0)) then (if 0≤(w64 (8*u13)) then (if u12.size+(strOfNums ([(wR iB (Int.fdiv (w64 (8*x0.N)) (2 ^ min (w64 (8*u13)).toNat 64)))])).size≤1152921504606846976 then (some (.inl ((u12++(strOfNums ([(wR iB (Int.fdiv (w64 (8*x0.N)) (2 ^ min (w64 (8*u13)).toNat 64)))]))),(w64 (u13-1))))) else none) else none) else (some (.inr (.out u12))))
noncomputable def impl_Hash_sum.s1 (y36:S_Hash) (u47:List Int) (u46:Int):Option (((List Int)×Int) ⊕ Ex ((List Int)) (ByteArray)) :=
  (bif (decide (u46<8)) then (if 0≤u46∧u46<(8:Int) then (if u47.length+([(wR iB (Int.fdiv (([y36.H0,y36.H1,y36.H2,y36.H3,y36.H4,y36.H5,y36.H6,y36.H7]:List Int).getD u46.toNat 0) (2 ^ 24))),(wR iB (Int.fdiv (([y36.H0,y36.H1,y36.H2,y36.H3,y36.H4,y36.H5,y36.H6,y36.H7]:List Int).getD u46.toNat 0) (2 ^ 16))),(wR iB (Int.fdiv (([y36.H0,y36.H1,y36.H2,y36.H3,y36.H4,y36.H5,y36.H6,y36.H7]:List Int).getD u46.toNat 0) (2 ^ 8))),(wR iB (([y36.H0,y36.H1,y36.H2,y36.H3,y36.H4,y36.H5,y36.H6,y36.H7]:List Int).getD u46.toNat 0))]).length≤1073741824 then (some (.inl ((u47++([(wR iB (Int.fdiv (([y36.H0,y36.H1,y36.H2,y36.H3,y36.H4,y36.H5,y36.H6,y36.H7]:List Int).getD u46.toNat 0) (2 ^ 24))),(wR iB (Int.fdiv (([y36.H0,y36.H1,y36.H2,y36.H3,y36.H4,y36.H5,y36.H6,y36.H7]:List Int).getD u46.toNat 0) (2 ^ 16))),(wR iB (Int.fdiv (([y36.H0,y36.H1,y36.H2,y36.H3,y36.H4,y36.H5,y36.H6,y36.H7]:List Int).getD u46.toNat 0) (2 ^ 8))),(wR iB (([y36.H0,y36.H1,y36.H2,y36.H3,y36.H4,y36.H5,y36.H6,y36.H7]:List Int).getD u46.toNat 0))])),(w64 (u46+1))))) else none) else none) else (some (.inr (.out u47))))
noncomputable def impl_Hash_sum.f (x0:S_Hash):Option (ByteArray) :=
  ((strings_Repeat.f (⟨#[0]⟩:ByteArray) (Int.tmod (w64 (119-(x0.Buf.size:Int))) 64)).bind fun y5=>(if (⟨#[128]⟩:ByteArray).size+y5.size≤1152921504606846976 then ((loopO (fun s=>impl_Hash_sum.s0 x0 s.1 s.2) (((⟨#[128]⟩:ByteArray)++y5),7)).bind fun o=>match o with | .out u14=>((impl_Hash_more.f x0 u14).bind fun y36=>((loopO (fun s=>impl_Hash_sum.s1 y36 s.1 s.2) (([]:List Int),0)).bind fun o=>match o with | .out u52=>(some (strOfNums u52)) | .ret r=>(some r))) | .ret r=>(some r)) else none))
theorem impl_Hash_sum_t (w0:World) (x0:S_Hash) (r:ByteArray) (H:impl_Hash_sum.f x0=some r) :
    Calls Tryz.prog 66 #[.agg #[vI iS x0.H0,vI iS x0.H1,vI iS x0.H2,vI iS x0.H3,vI iS x0.H4,vI iS x0.H5,vI iS x0.H6,vI iS x0.H7,vS x0.Buf,vI iS x0.N]] w0 (Ret (fun v w=>v=vS r∧Sat [] w0 w [] [])):=by
 have hs:=sat0 w0 [] (by simp)
 unfold impl_Hash_sum.f at H
 refine enter Tryz.func66 rfl Tryz.ntmps66 rfl fun a hk=>sr fun _ hK1=>sbx 1 hs rfl hk rfl rfl rfl rfl fun b2 w a hk hs=>mv hk rfl fun a hk=>nx hK1 <| sr fun _ hK3=>sf ⟨b2,9,none⟩ rfl hk rfl rfl rfl fd79_2 rfl fun a hk=>sl rfl hk rfl rfl rfl ag3 (box_cell hs (k:=1) rfl rfl) fun a hk=>sv (vI iS (w64 (8*x0.N))) hk rfl rfl rfl fun a hk=>mv hk rfl fun a hk=>nx hK3 <| sr fun _ hK4=>sf ⟨b2,8,none⟩ rfl hk rfl rfl rfl fd79_1 rfl fun a hk=>sl rfl hk rfl rfl rfl ag9 (box_cell hs (k:=1) rfl rfl) fun a hk=>sles rfl hk rfl rfl rfl un9 fun a hk=>sv (vI iS (w64 (119-(x0.Buf.size:Int)))) hk rfl rfl rfl fun a hk=>sv (vI iS (Int.tmod (w64 (119-(x0.Buf.size:Int))) 64)) hk rfl rfl rfl fun a hk=>?_
 obtain ⟨y5,h6,H⟩:=bind_some H
 refine sc rfl en88 hk rfl rfl rfl (strings_Repeat_t _ (⟨#[0]⟩:ByteArray) (Int.tmod (w64 (119-(x0.Buf.size:Int))) 64) _ h6) ?_
 rintro _ w ⟨rfl,hG⟩ a hk
 have hs:=hs.call0 hG
 obtain ⟨c7,H⟩:=ite_no H
 refine ssa rfl hk rfl rfl rfl rfl c7 fun a hk=>mv hk rfl fun a hk=>nx hK4 <| sq fun _ hK8=>sr fun _ hK9=>mv hk rfl fun a hk=>nx hK9 ?_
 obtain ⟨o15,h16,HL17⟩:=bind_some H
 clear H
 obtain ⟨R18,hR18⟩:=nm fun a w=>∃ (u14:ByteArray),o15 = .out u14∧Kn [(1,(vP (some ⟨b2,0,none⟩))),(4,(vS u14))] 56 a∧Sat [] w0 w [] [(1,[(b2,.cells #[vI iS x0.H0,vI iS x0.H1,vI iS x0.H2,vI iS x0.H3,vI iS x0.H4,vI iS x0.H5,vI iS x0.H6,vI iS x0.H7,vS x0.Buf,vI iS x0.N] 79 (0,0))])]
 refine wp_cutq R18 ?_ ?_
 ·refine wp_block ?_
  obtain ⟨fu20,h16⟩:=loopO_some h16
  obtain ⟨I19,hI19⟩:=nm fun fu a w=>∃ (u12:ByteArray) (u13:Int),loopN (fun s=>impl_Hash_sum.s0 x0 s.1 s.2) fu (u12,u13)=some o15∧Kn [(1,(vP (some ⟨b2,0,none⟩))),(3,(vI iS (w64 (8*x0.N)))),(4,(vS u12)),(5,(vI iS u13))] 56 a∧Sat [] w0 w [] [(1,[(b2,.cells #[vI iS x0.H0,vI iS x0.H1,vI iS x0.H2,vI iS x0.H3,vI iS x0.H4,vI iS x0.H5,vI iS x0.H6,vI iS x0.H7,vS x0.Buf,vI iS x0.N] 79 (0,0))])]
  refine wp_loop_ghost I19 fu20 ?_ ?_
  ·rw [hI19]
   exact ⟨_,_,h16,(hk.al rfl),(hs.pick [(1,1)] rfl)⟩
  clear h16 hk hs
  intro fu20 a w hI0
  rw [hI19] at hI0
  obtain ⟨u12,u13,hi,hk,hs⟩:=hI0
  obtain ⟨x21,H,h22⟩:=loop_round hi
  try dsimp only at H
  unfold impl_Hash_sum.s0 at H
  refine sq fun _ hK23=>sr fun _ hK24=>mv hk rfl fun a hk=>sv (.bool (decide (u13 ≥ 0))) hk rfl rfl rfl fun a hk=>nx hK24 ?_
  rcases cond_some H with ⟨c25,H⟩ | ⟨c25,H⟩
  ·have hk:=hk.lit 20 c25 rfl
   refine cnd_true hk rfl rfl <| wp_skip <| hK23 _ _ <| sq fun _ hK26=>wp_block ?_
   apply wp_region_lit
   refine mv hk rfl fun a hk=>mv hk rfl fun a hk=>mv hk rfl fun a hk=>sv (vI iS (w64 (8*u13))) hk rfl rfl rfl fun a hk=>?_
   obtain ⟨c27,H⟩:=ite_no H
   refine ssr rfl hk rfl rfl rfl rfl c27 fun a hk=>scn rfl hk rfl rfl rfl un5 un3 fun a hk=>sbs (L:=(Lay.int iB)) (pv:=[(0,(vI iB (wR iB (Int.fdiv (w64 (8*x0.N)) (2 ^ min (w64 (8*u13)).toNat 64)))))]) (xs:=[(wR iB (Int.fdiv (w64 (8*x0.N)) (2 ^ min (w64 (8*u13)).toNat 64)))]) (ess:=[[vI iB (wR iB (Int.fdiv (w64 (8*x0.N)) (2 ^ min (w64 (8*u13)).toNat 64)))]]) 3 hs rfl hk rfl rfl rfl un101 (bs5_4 (wR iB (Int.fdiv (w64 (8*x0.N)) (2 ^ min (w64 (8*u13)).toNat 64)))) (AllOwn.cons0 ⟨rfl,rfl⟩ AllOwn.nil) rfl rfl rfl fun b28 k29 w a hk o30 hs=>sbt (xs:=([(wR iB (Int.fdiv (w64 (8*x0.N)) (2 ^ min (w64 (8*u13)).toNat 64)))])) rfl hk rfl rfl rfl rfl un101 un5 un9 o30.view (hs.hasG (k:=3) rfl) fun a hk=>?_
   obtain ⟨c31,H⟩:=ite_no H
   refine ssa rfl hk rfl rfl rfl rfl c31 fun a hk=>mv hk rfl fun a hk=>nx hK26 ?_
   apply wp_region_lit
   refine mv hk rfl fun a hk=>sv (vI iS (w64 (u13-1))) hk rfl rfl rfl fun a hk=>mv hk rfl fun a hk=>?_
   show wpList _ _ _ [] _ _
   refine wpList_nil ?_
   obtain rfl:=osi H
   obtain ⟨m32,hmm32,h22⟩:=h22
   show ∃ n',n'<_∧I19 n' _ _
   refine ⟨m32,hmm32,?_⟩
   rw [hI19]
   exact ⟨_,_,h22,(hk.al rfl),(hs.pick [(1,1)] rfl)⟩
  have hk:=hk.lit 20 c25 rfl
  refine cnd_false hk rfl rfl <| wp_exit ?_
  obtain rfl:=osi H
  show R18 _ _
  rw [hR18]
  exact ⟨_,h22.symm,(hk.al rfl),(hs.pick [(1,1)] rfl)⟩
 intro a w hR0
 rw [hR18] at hR0
 obtain ⟨u14,rfl,hk,hs⟩:=hR0
 have H:=HL17
 try dsimp only at H
 refine hK8 _ _ <| sr fun _ hK33=>mv hk rfl fun a hk=>nx hK33 <| sq fun _ hK34=>sr fun _ hK35=>sln [vI iS x0.H0,vI iS x0.H1,vI iS x0.H2,vI iS x0.H3,vI iS x0.H4,vI iS x0.H5,vI iS x0.H6,vI iS x0.H7,vS x0.Buf,vI iS x0.N] rfl hk rfl rfl rfl ag79 sz79 (box_cells hs (k:=1) rfl) fun a hk=>mv hk rfl fun a hk=>?_
 obtain ⟨y36,h37,H⟩:=bind_some H
 refine sc rfl en65 hk rfl rfl rfl (impl_Hash_more_t _ x0 u14 _ h37) ?_
 rintro _ w ⟨rfl,hG⟩ a hk
 have hs:=hs.call0 hG
 have lh38:([y36.H0,y36.H1,y36.H2,y36.H3,y36.H4,y36.H5,y36.H6,y36.H7]:List Int).length=8:=rfl
 refine sfdA (ik:=.i64) ([y36.H0,y36.H1,y36.H2,y36.H3,y36.H4,y36.H5,y36.H6,y36.H7]:List Int) rfl hk rfl rfl rfl fdt79_0 ag77 sz77 rfl fun a hk=>mv hk rfl fun a hk=>nx hK35 ?_
 obtain ⟨o57,h58,HL59⟩:=bind_some H
 clear H
 obtain ⟨R60,hR60⟩:=nm fun a w=>∃ (u52:List Int) (A55:Option Addr) (p56:Nat) (k53:Chunk),o57 = .out u52∧Kn [(6,(vL A55 u52.length p56))] 56 a∧Sat [] w0 w [] [(6,k53)]∧Own (Lay.int iB) 5 A55 p56 u52 k53
 refine wp_cutq R60 ?_ ?_
 ·refine wp_block ?_
  obtain ⟨fu62,h58⟩:=loopO_some h58
  obtain ⟨I61,hI61⟩:=nm fun fu a w=>∃ (u47:List Int) (u46:Int) (A50:Option Addr) (p51:Nat) (k48:Chunk),loopN (fun s=>impl_Hash_sum.s1 y36 s.1 s.2) fu (u47,u46)=some o57∧Kn [(6,(vL A50 u47.length p51)),(35,(aggI .i64 ([y36.H0,y36.H1,y36.H2,y36.H3,y36.H4,y36.H5,y36.H6,y36.H7]:List Int))),(36,(vI iS u46))] 56 a∧Sat [] w0 w [] [(6,k48)]∧Own (Lay.int iB) 5 A50 p51 u47 k48
  refine wp_loop_ghost I61 fu62 ?_ ?_
  ·rw [hI61]
   exact ⟨_,_,none,0,_,h58,(hk.al rfl),((hs.addNil 1006).pick [(6,1006)] rfl),Own.nil _ _⟩
  clear h58 hk hs
  intro fu62 a w hI0
  rw [hI61] at hI0
  obtain ⟨u47,u46,A50,p51,k48,hi,hk,hs,o49⟩:=hI0
  obtain ⟨x63,H,h64⟩:=loop_round hi
  try dsimp only at H
  unfold impl_Hash_sum.s1 at H
  refine sr fun _ hK65=>sv (.bool (decide (u46<8))) hk rfl rfl rfl fun a hk=>nx hK65 ?_
  have hs:=hs.pick [(6,6)] rfl
  refine sq fun _ hK66=>?_
  rcases cond_some H with ⟨c67,H⟩ | ⟨c67,H⟩
  ·have hk:=hk.lit 37 c67 rfl
   refine cnd_true hk rfl rfl <| wp_skip <| hK66 _ _ <| sq fun _ hK68=>wp_block ?_
   refine sr fun _ hK69=>?_
   obtain ⟨c70,H⟩:=ite_no H
   refine sixa rfl hk rfl rfl rfl rfl un77 sz3 ag3 lh38 c70.1 c70.2 fun a hk=>mv hk rfl fun a hk=>nx hK69 ?_
   apply wp_region_lit
   refine mv hk rfl fun a hk=>mv hk rfl fun a hk=>sv (vI iS (Int.fdiv (([y36.H0,y36.H1,y36.H2,y36.H3,y36.H4,y36.H5,y36.H6,y36.H7]:List Int).getD u46.toNat 0) (2 ^ 24))) hk rfl rfl rfl fun a hk=>scn rfl hk rfl rfl rfl un5 un3 fun a hk=>mv hk rfl fun a hk=>sv (vI iS (Int.fdiv (([y36.H0,y36.H1,y36.H2,y36.H3,y36.H4,y36.H5,y36.H6,y36.H7]:List Int).getD u46.toNat 0) (2 ^ 16))) hk rfl rfl rfl fun a hk=>scn rfl hk rfl rfl rfl un5 un3 fun a hk=>mv hk rfl fun a hk=>sv (vI iS (Int.fdiv (([y36.H0,y36.H1,y36.H2,y36.H3,y36.H4,y36.H5,y36.H6,y36.H7]:List Int).getD u46.toNat 0) (2 ^ 8))) hk rfl rfl rfl fun a hk=>scn rfl hk rfl rfl rfl un5 un3 fun a hk=>mv hk rfl fun a hk=>scn rfl hk rfl rfl rfl un5 un3 fun a hk=>sbs (L:=(Lay.int iB)) (pv:=[(0,(vI iB (wR iB (Int.fdiv (([y36.H0,y36.H1,y36.H2,y36.H3,y36.H4,y36.H5,y36.H6,y36.H7]:List Int).getD u46.toNat 0) (2 ^ 24))))),(1,(vI iB (wR iB (Int.fdiv (([y36.H0,y36.H1,y36.H2,y36.H3,y36.H4,y36.H5,y36.H6,y36.H7]:List Int).getD u46.toNat 0) (2 ^ 16))))),(2,(vI iB (wR iB (Int.fdiv (([y36.H0,y36.H1,y36.H2,y36.H3,y36.H4,y36.H5,y36.H6,y36.H7]:List Int).getD u46.toNat 0) (2 ^ 8))))),(3,(vI iB (wR iB (([y36.H0,y36.H1,y36.H2,y36.H3,y36.H4,y36.H5,y36.H6,y36.H7]:List Int).getD u46.toNat 0))))]) (xs:=[(wR iB (Int.fdiv (([y36.H0,y36.H1,y36.H2,y36.H3,y36.H4,y36.H5,y36.H6,y36.H7]:List Int).getD u46.toNat 0) (2 ^ 24))),(wR iB (Int.fdiv (([y36.H0,y36.H1,y36.H2,y36.H3,y36.H4,y36.H5,y36.H6,y36.H7]:List Int).getD u46.toNat 0) (2 ^ 16))),(wR iB (Int.fdiv (([y36.H0,y36.H1,y36.H2,y36.H3,y36.H4,y36.H5,y36.H6,y36.H7]:List Int).getD u46.toNat 0) (2 ^ 8))),(wR iB (([y36.H0,y36.H1,y36.H2,y36.H3,y36.H4,y36.H5,y36.H6,y36.H7]:List Int).getD u46.toNat 0))]) (ess:=[[vI iB (wR iB (Int.fdiv (([y36.H0,y36.H1,y36.H2,y36.H3,y36.H4,y36.H5,y36.H6,y36.H7]:List Int).getD u46.toNat 0) (2 ^ 24)))],[vI iB (wR iB (Int.fdiv (([y36.H0,y36.H1,y36.H2,y36.H3,y36.H4,y36.H5,y36.H6,y36.H7]:List Int).getD u46.toNat 0) (2 ^ 16)))],[vI iB (wR iB (Int.fdiv (([y36.H0,y36.H1,y36.H2,y36.H3,y36.H4,y36.H5,y36.H6,y36.H7]:List Int).getD u46.toNat 0) (2 ^ 8)))],[vI iB (wR iB (([y36.H0,y36.H1,y36.H2,y36.H3,y36.H4,y36.H5,y36.H6,y36.H7]:List Int).getD u46.toNat 0))]]) 7 hs rfl hk rfl rfl rfl un101 (bs5_5 (wR iB (Int.fdiv (([y36.H0,y36.H1,y36.H2,y36.H3,y36.H4,y36.H5,y36.H6,y36.H7]:List Int).getD u46.toNat 0) (2 ^ 24))) (wR iB (Int.fdiv (([y36.H0,y36.H1,y36.H2,y36.H3,y36.H4,y36.H5,y36.H6,y36.H7]:List Int).getD u46.toNat 0) (2 ^ 16))) (wR iB (Int.fdiv (([y36.H0,y36.H1,y36.H2,y36.H3,y36.H4,y36.H5,y36.H6,y36.H7]:List Int).getD u46.toNat 0) (2 ^ 8))) (wR iB (([y36.H0,y36.H1,y36.H2,y36.H3,y36.H4,y36.H5,y36.H6,y36.H7]:List Int).getD u46.toNat 0))) (AllOwn.cons0 ⟨rfl,rfl⟩ (AllOwn.cons0 ⟨rfl,rfl⟩ (AllOwn.cons0 ⟨rfl,rfl⟩ (AllOwn.cons0 ⟨rfl,rfl⟩ AllOwn.nil)))) rfl rfl rfl fun b71 k72 w a hk o73 hs=>?_
   obtain ⟨c74,H⟩:=ite_no H
   refine sap 6 (xs:=u47) (ys:=[(wR iB (Int.fdiv (([y36.H0,y36.H1,y36.H2,y36.H3,y36.H4,y36.H5,y36.H6,y36.H7]:List Int).getD u46.toNat 0) (2 ^ 24))),(wR iB (Int.fdiv (([y36.H0,y36.H1,y36.H2,y36.H3,y36.H4,y36.H5,y36.H6,y36.H7]:List Int).getD u46.toNat 0) (2 ^ 16))),(wR iB (Int.fdiv (([y36.H0,y36.H1,y36.H2,y36.H3,y36.H4,y36.H5,y36.H6,y36.H7]:List Int).getD u46.toNat 0) (2 ^ 8))),(wR iB (([y36.H0,y36.H1,y36.H2,y36.H3,y36.H4,y36.H5,y36.H6,y36.H7]:List Int).getD u46.toNat 0))]) (flat_flat:((Lay.int iB)).Flat) hs rfl o49 o73.view (hs.hasG (k:=7) rfl) rfl hk rfl rfl rfl rfl rfl rfl un101 mk5 rfl rfl rfl c74 fun A75 p76 k77 w a hk o78 hs=>mv hk rfl fun a hk=>nx hK68 ?_
   apply wp_region_lit
   refine sv (vI iS (w64 (u46+1))) hk rfl rfl rfl fun a hk=>mv hk rfl fun a hk=>?_
   show wpList _ _ _ [] _ _
   refine wpList_nil ?_
   obtain rfl:=osi H
   obtain ⟨m79,hmm79,h64⟩:=h64
   show ∃ n',n'<_∧I61 n' _ _
   refine ⟨m79,hmm79,?_⟩
   rw [hI61]
   exact ⟨_,_,A75,p76,_,h64,(hk.al rfl),(hs.pick [(6,6)] rfl),o78⟩
  have hk:=hk.lit 37 c67 rfl
  refine cnd_false hk rfl rfl <| wp_exit ?_
  obtain rfl:=osi H
  show R60 _ _
  rw [hR60]
  exact ⟨_,A50,p51,_,h64.symm,(hk.al rfl),(hs.pick [(6,6)] rfl),o49⟩
 intro a w hR0
 rw [hR60] at hR0
 obtain ⟨u52,A55,p56,k53,rfl,hk,hs,o54⟩:=hR0
 have H:=HL59
 try dsimp only at H
 refine hK34 _ _ ?_
 have hs:=hs.pick [(6,6)] rfl
 refine sr fun _ hK80=>mv hk rfl fun a hk=>sbt (xs:=u52) rfl hk rfl rfl rfl rfl un101 un5 un9 o54.view (hs.hasG (k:=6) rfl) fun a hk=>mv hk rfl fun a hk=>nx hK80 <| wp_ret ?_
 obtain rfl:=osi H
 exact fin hk _ [(vS (strOfNums u52))] rfl ⟨rfl,trivial⟩ ⟨rfl,(hs.pick [] rfl).dnil⟩
noncomputable def impl_digest.f (x0:ByteArray):Option (ByteArray) :=
  ((impl_NewHash.f).bind fun y3=>((impl_Hash_more.f y3 x0).bind fun y5=>((impl_Hash_sum.f y5).bind fun y7=>(some y7))))
theorem impl_digest_t (w0:World) (x0:ByteArray) (r:ByteArray) (H:impl_digest.f x0=some r) :
    Calls Tryz.prog 38 #[vS x0] w0 (Ret (fun v w=>v=vS r∧Sat [] w0 w [] [])):=by
 have hs:=sat0 w0 [] (by simp)
 unfold impl_digest.f at H
 refine enter Tryz.func38 rfl Tryz.ntmps38 rfl fun a hk=>sr fun _ hK1=>mv hk rfl fun a hk=>nx hK1 <| sr fun _ hK2=>?_
 obtain ⟨y3,h4,H⟩:=bind_some H
 refine sc rfl en64 hk rfl rfl rfl (impl_NewHash_t _ _ h4) ?_
 rintro _ w ⟨rfl,hG⟩ a hk
 have hs:=hs.call0 hG
 refine mv hk rfl fun a hk=>?_
 obtain ⟨y5,h6,H⟩:=bind_some H
 refine sc rfl en65 hk rfl rfl rfl (impl_Hash_more_t _ y3 x0 _ h6) ?_
 rintro _ w ⟨rfl,hG⟩ a hk
 have hs:=hs.call0 hG
 obtain ⟨y7,h8,H⟩:=bind_some H
 refine sc rfl en66 hk rfl rfl rfl (impl_Hash_sum_t _ y5 _ h8) ?_
 rintro _ w ⟨rfl,hG⟩ a hk
 have hs:=hs.call0 hG
 refine mv hk rfl fun a hk=>nx hK2 <| wp_ret ?_
 obtain rfl:=osi H
 exact fin hk _ [(vS y7)] rfl ⟨rfl,trivial⟩ ⟨rfl,(hs.pick [] rfl).dnil⟩
noncomputable def impl_firstTip.f  : Option (ByteArray) :=
  ((impl_digest.f (⟨#[98,101,103,105,110]⟩:ByteArray)).bind fun y3=>(some y3))
theorem impl_firstTip_t (w0:World)  (r:ByteArray) (H:impl_firstTip.f  = some r) :
    Calls Tryz.prog 18 #[] w0 (Ret (fun v w=>v=vS r∧Sat [] w0 w [] [])):=by
 have hs:=sat0 w0 [] (by simp)
 unfold impl_firstTip.f at H
 refine enter Tryz.func18 rfl Tryz.ntmps18 rfl fun a hk=>sr fun _ hK1=>mv hk rfl fun a hk=>nx hK1 <| sr fun _ hK2=>?_
 obtain ⟨y3,h4,H⟩:=bind_some H
 refine sc rfl en38 hk rfl rfl rfl (impl_digest_t _ (⟨#[98,101,103,105,110]⟩:ByteArray) _ h4) ?_
 rintro _ w ⟨rfl,hG⟩ a hk
 have hs:=hs.call0 hG
 refine mv hk rfl fun a hk=>nx hK2 <| wp_ret ?_
 obtain rfl:=osi H
 exact fin hk _ [(vS y3)] rfl ⟨rfl,trivial⟩ ⟨rfl,(hs.pick [] rfl).dnil⟩
noncomputable def impl_leafDigest.f (x0:Int) (x1:ByteArray):Option (ByteArray) :=
  (if (strOfNums ([0,(wR iB x0)])).size+x1.size≤1152921504606846976 then ((impl_digest.f ((strOfNums ([0,(wR iB x0)]))++x1)).bind fun y7=>(some y7)) else none)
theorem impl_leafDigest_t (w0:World) (x0:Int) (x1:ByteArray) (r:ByteArray) (H:impl_leafDigest.f x0 x1=some r) :
    Calls Tryz.prog 67 #[vI iS x0,vS x1] w0 (Ret (fun v w=>v=vS r∧Sat [] w0 w [] [])):=by
 have hs:=sat0 w0 [] (by simp)
 unfold impl_leafDigest.f at H
 refine enter Tryz.func67 rfl Tryz.ntmps67 rfl fun a hk=>sr fun _ hK1=>mv hk rfl fun a hk=>nx hK1 <| sr fun _ hK2=>mv hk rfl fun a hk=>scn rfl hk rfl rfl rfl un5 un3 fun a hk=>sbs (L:=(Lay.int iB)) (pv:=[(0,(vI iB 0)),(1,(vI iB (wR iB x0)))]) (xs:=[0,(wR iB x0)]) (ess:=[[vI iB 0],[vI iB (wR iB x0)]]) 1 hs rfl hk rfl rfl rfl un101 (bs5_17 0 (wR iB x0)) (AllOwn.cons0 ⟨rfl,rfl⟩ (AllOwn.cons0 ⟨rfl,rfl⟩ AllOwn.nil)) rfl rfl rfl fun b3 k4 w a hk o5 hs=>sbt (xs:=([0,(wR iB x0)])) rfl hk rfl rfl rfl rfl un101 un5 un9 o5.view (hs.hasG (k:=1) rfl) fun a hk=>mv hk rfl fun a hk=>?_
 obtain ⟨c6,H⟩:=ite_no H
 refine ssa rfl hk rfl rfl rfl rfl c6 fun a hk=>?_
 obtain ⟨y7,h8,H⟩:=bind_some H
 refine sc rfl en38 hk rfl rfl rfl (impl_digest_t _ ((strOfNums ([0,(wR iB x0)]))++x1) _ h8) ?_
 rintro _ w ⟨rfl,hG⟩ a hk
 have hs:=hs.call0 hG
 refine mv hk rfl fun a hk=>nx hK2 <| wp_ret ?_
 obtain rfl:=osi H
 exact fin hk _ [(vS y7)] rfl ⟨rfl,trivial⟩ ⟨rfl,(hs.pick [] rfl).dnil⟩
noncomputable def impl_join.f (x0:ByteArray) (x1:ByteArray):Option (ByteArray) :=
  (if (⟨#[1]⟩:ByteArray).size+x0.size≤1152921504606846976 then (if ((⟨#[1]⟩:ByteArray)++x0).size+x1.size≤1152921504606846976 then ((impl_digest.f (((⟨#[1]⟩:ByteArray)++x0)++x1)).bind fun y5=>(some y5)) else none) else none)
theorem impl_join_t (w0:World) (x0:ByteArray) (x1:ByteArray) (r:ByteArray) (H:impl_join.f x0 x1=some r) :
    Calls Tryz.prog 68 #[vS x0,vS x1] w0 (Ret (fun v w=>v=vS r∧Sat [] w0 w [] [])):=by
 have hs:=sat0 w0 [] (by simp)
 unfold impl_join.f at H
 refine enter Tryz.func68 rfl Tryz.ntmps68 rfl fun a hk=>sr fun _ hK1=>mv hk rfl fun a hk=>nx hK1 <| sr fun _ hK2=>mv hk rfl fun a hk=>?_
 obtain ⟨c3,H⟩:=ite_no H
 refine ssa rfl hk rfl rfl rfl rfl c3 fun a hk=>mv hk rfl fun a hk=>?_
 obtain ⟨c4,H⟩:=ite_no H
 refine ssa rfl hk rfl rfl rfl rfl c4 fun a hk=>?_
 obtain ⟨y5,h6,H⟩:=bind_some H
 refine sc rfl en38 hk rfl rfl rfl (impl_digest_t _ (((⟨#[1]⟩:ByteArray)++x0)++x1) _ h6) ?_
 rintro _ w ⟨rfl,hG⟩ a hk
 have hs:=hs.call0 hG
 refine mv hk rfl fun a hk=>nx hK2 <| wp_ret ?_
 obtain rfl:=osi H
 exact fin hk _ [(vS y5)] rfl ⟨rfl,trivial⟩ ⟨rfl,(hs.pick [] rfl).dnil⟩
noncomputable def impl_tree.s0 (l0:List ByteArray) (u13:List ByteArray) (u12:Int):Option (((List ByteArray)×Int) ⊕ Ex ((List ByteArray)) ((List (List ByteArray)))) :=
  (bif (decide (u12<(l0.length:Int))) then (if 0≤u12∧u12<(l0.length:Int) then ((impl_leafDigest.f u12 (l0.getD u12.toNat ByteArray.empty)).bind fun y40=>(if u13.length+([y40]).length≤1073741824 then (some (.inl ((u13++([y40])),(w64 (u12+1))))) else none)) else none) else (some (.inr (.out u13))))
noncomputable def impl_tree.s2 (u60:List ByteArray) (u100:List ByteArray) (u99:Int):Option (((List ByteArray)×Int) ⊕ Ex ((List ByteArray)) ((List (List ByteArray)))) :=
  (bif (decide (u99<(u60.length:Int))) then (if 0≤u99∧u99<(u60.length:Int) then (if 0≤(w64 (u99+1))∧(w64 (u99+1))<(u60.length:Int) then ((impl_join.f (u60.getD u99.toNat ByteArray.empty) (u60.getD (w64 (u99+1)).toNat ByteArray.empty)).bind fun y131=>(if u100.length+([y131]).length≤1073741824 then (some (.inl ((u100++([y131])),(w64 (u99+2))))) else none)) else none) else none) else (some (.inr (.out u100))))
noncomputable def impl_tree.s1  (u60:List ByteArray) (u68:List (List ByteArray)):Option (((List ByteArray)×(List (List ByteArray))) ⊕ Ex ((List (List ByteArray))) ((List (List ByteArray)))) :=
  (bif (decide ((u60.length:Int)>1)) then ((loopO (fun s=>impl_tree.s2 u60 s.1 s.2) (([]:List ByteArray),0)).bind fun o=>match o with | .out u105=>(if u68.length+([u105]).length≤1073741824 then (some (.inl (u105,(u68++([u105]))))) else none) | .ret r=>(some (.inr (.ret r)))) else (some (.inr (.out u68))))
noncomputable def impl_tree.f (l0:List ByteArray):Option ((List (List ByteArray))) :=
  ((loopO (fun s=>impl_tree.s0 l0 s.1 s.2) (([]:List ByteArray),0)).bind fun o=>match o with | .out u18=>((loopO (fun s=>impl_tree.s1  s.1 s.2) (u18,[u18])).bind fun o=>match o with | .out u73=>(some u73) | .ret r=>(some r)) | .ret r=>(some r))
theorem impl_tree_t (w0:World) (A0_:Option Addr) (p0_:Nat) (l0:List ByteArray) (k0_:Chunk) (v0_:View Lay.str A0_ p0_ l0 k0_) (w0_:Has w0 k0_) (r:(List (List ByteArray))) (H:impl_tree.f l0=some r) :
    Calls Tryz.prog 39 #[vL A0_ l0.length p0_] w0 (Ret (fun v w=>∃ (A0:Option Addr) (p0:Nat) (k0:Chunk),v=vL A0 r.length p0∧Own (Lay.sl Lay.str 9) 25 A0 p0 r k0∧Sat [] w0 w [] [(0,k0)])):=by
 have hs:=sat0 w0 [(1,k0_)] (by simp only [List.mem_cons,List.not_mem_nil,or_false];rintro x (rfl) <;> assumption)
 unfold impl_tree.f at H
 refine enter Tryz.func39 rfl Tryz.ntmps39 rfl fun a hk=>sr fun _ hK1=>mv hk rfl fun a hk=>nx hK1 <| sr fun _ hK2=>mv hk rfl fun a hk=>nx hK2 <| sq fun _ hK3=>sr fun _ hK4=>mv hk rfl fun a hk=>sle rfl hk rfl rfl rfl un25 fun a hk=>mv hk rfl fun a hk=>nx hK4 ?_
 obtain ⟨o23,h24,HL25⟩:=bind_some H
 clear H
 obtain ⟨R26,hR26⟩:=nm fun a w=>∃ (u18:List ByteArray) (A21:Option Addr) (p22:Nat) (k19:Chunk),o23 = .out u18∧Kn [(3,(vL A21 u18.length p22))] 53 a∧Sat [] w0 w [(1,k0_)] [(4,k19)]∧Own Lay.str 9 A21 p22 u18 k19
 refine wp_cutq R26 ?_ ?_
 ·refine wp_block ?_
  obtain ⟨fu28,h24⟩:=loopO_some h24
  obtain ⟨I27,hI27⟩:=nm fun fu a w=>∃ (u13:List ByteArray) (u12:Int) (A16:Option Addr) (p17:Nat) (k14:Chunk),loopN (fun s=>impl_tree.s0 l0 s.1 s.2) fu (u13,u12)=some o23∧Kn [(3,(vL A16 u13.length p17)),(9,(vL A0_ l0.length p0_)),(10,(vI iS (l0.length:Int))),(11,(vI iS u12))] 53 a∧Sat [] w0 w [(1,k0_)] [(4,k14)]∧Own Lay.str 9 A16 p17 u13 k14
  refine wp_loop_ghost I27 fu28 ?_ ?_
  ·rw [hI27]
   exact ⟨_,_,none,0,_,h24,(hk.al rfl),((hs.addNil 1004).pick [(4,1004)] rfl),Own.nil _ _⟩
  clear h24 hk hs
  intro fu28 a w hI0
  rw [hI27] at hI0
  obtain ⟨u13,u12,A16,p17,k14,hi,hk,hs,o15⟩:=hI0
  obtain ⟨x29,H,h30⟩:=loop_round hi
  try dsimp only at H
  unfold impl_tree.s0 at H
  refine sr fun _ hK31=>sv (.bool (decide (u12<(l0.length:Int)))) hk rfl rfl rfl fun a hk=>nx hK31 <| sq fun _ hK32=>?_
  rcases cond_some H with ⟨c33,H⟩ | ⟨c33,H⟩
  ·have hk:=hk.lit 12 c33 rfl
   refine cnd_true hk rfl rfl <| wp_skip <| hK32 _ _ <| sq fun _ hK34=>wp_block ?_
   refine sr fun _ hK35=>mv hk rfl fun a hk=>?_
   obtain ⟨c36,H⟩:=ite_no H
   obtain ⟨b37,q38,hAc36⟩:=(v0_).some_ u12 c36.1 c36.2
   refine si rfl hk rfl rfl rfl rfl un25 sz9 c36.1 c36.2 hAc36 fun a hk=>?_
   obtain ⟨_,rfl,e39⟩:=(v0_).at_ ByteArray.empty u12 c36.1 c36.2
   refine sl (v:=(vS (l0.getD u12.toNat ByteArray.empty))) rfl hk rfl rfl rfl ag9 ((e39 0 _ rfl).cell (hs.hasD (k:=1) rfl)) fun a hk=>mv hk rfl fun a hk=>mv hk rfl fun a hk=>nx hK35 ?_
   apply wp_region_lit
   refine mv hk rfl fun a hk=>mv hk rfl fun a hk=>mv hk rfl fun a hk=>?_
   obtain ⟨y40,h41,H⟩:=bind_some H
   refine sc rfl en67 hk rfl rfl rfl (impl_leafDigest_t _ u12 (l0.getD u12.toNat ByteArray.empty) _ h41) ?_
   rintro _ w ⟨rfl,hG⟩ a hk
   have hs:=hs.call0 hG
   refine sbs (L:=Lay.str) (pv:=[(0,(vS y40))]) (xs:=[y40]) (ess:=[[vS y40]]) 5 hs rfl hk rfl rfl rfl un25 (bs9_12 y40) (AllOwn.cons0 ⟨rfl,rfl⟩ AllOwn.nil) rfl rfl rfl fun b42 k43 w a hk o44 hs=>?_
   obtain ⟨c45,H⟩:=ite_no H
   refine sap 4 (xs:=u13) (ys:=[y40]) (flat_flat:(Lay.str).Flat) hs rfl o15 o44.view (hs.hasG (k:=5) rfl) rfl hk rfl rfl rfl rfl rfl rfl un25 mk9 rfl rfl rfl c45 fun A46 p47 k48 w a hk o49 hs=>mv hk rfl fun a hk=>nx hK34 ?_
   apply wp_region_lit
   refine sv (vI iS (w64 (u12+1))) hk rfl rfl rfl fun a hk=>mv hk rfl fun a hk=>?_
   show wpList _ _ _ [] _ _
   refine wpList_nil ?_
   obtain rfl:=osi H
   obtain ⟨m50,hmm50,h30⟩:=h30
   show ∃ n',n'<_∧I27 n' _ _
   refine ⟨m50,hmm50,?_⟩
   rw [hI27]
   exact ⟨_,_,A46,p47,_,h30,(hk.al rfl),(hs.pick [(4,4)] rfl),o49⟩
  have hk:=hk.lit 12 c33 rfl
  refine cnd_false hk rfl rfl <| wp_exit ?_
  obtain rfl:=osi H
  show R26 _ _
  rw [hR26]
  exact ⟨_,A16,p17,_,h30.symm,(hk.al rfl),(hs.pick [(4,4)] rfl),o15⟩
 intro a w hR0
 rw [hR26] at hR0
 obtain ⟨u18,A21,p22,k19,rfl,hk,hs,o20⟩:=hR0
 have H:=HL25
 try dsimp only at H
 refine hK3 _ _ <| sr fun _ hK51=>mv hk rfl fun a hk=>sbs1L (L:=(Lay.sl Lay.str 9)) (pv:=[(0,(vL A21 u18.length p22))]) (xs:=[u18]) (ess:=[[vL A21 u18.length p22]]) 6 4 hs rfl rfl hk rfl rfl rfl un70 (bs25_30 A21 u18.length p22) (AllOwn.one ⟨_,rfl,o20.toV⟩) rfl rfl rfl fun b52 k53 w a hk o54 hs hE55x=>?_
 obtain ⟨_,_,hE55⟩:=hE55x
 have v56:View Lay.str A21 p22 u18 k53:=(o20.view).mono (fun z hz=>by rw [hE55];exact List.mem_cons_of_mem _ hz)
 refine mv hk rfl fun a hk=>nx hK51 <| sq fun _ hK57=>?_
 obtain ⟨o78,h79,HL80⟩:=bind_some H
 clear H
 obtain ⟨R81,hR81⟩:=nm fun a w=>∃ (u73:List (List ByteArray)) (A76:Option Addr) (p77:Nat) (k74:Chunk),o78 = .out u73∧Kn [(6,(vL A76 u73.length p77))] 53 a∧Sat [] w0 w [(1,k0_)] [(6,k74)]∧Own (Lay.sl Lay.str 9) 25 A76 p77 u73 k74
 refine wp_cutq R81 ?_ ?_
 ·refine wp_block ?_
  obtain ⟨fu83,h79⟩:=loopO_some h79
  obtain ⟨I82,hI82⟩:=nm fun fu a w=>∃ (u60:List ByteArray) (u68:List (List ByteArray)) (A61:Option Addr) (p62:Nat) (A71:Option Addr) (p72:Nat) (k69:Chunk),loopN (fun s=>impl_tree.s1  s.1 s.2) fu (u60,u68)=some o78∧Kn [(3,(vL A61 u60.length p62)),(6,(vL A71 u68.length p72))] 53 a∧Sat [] w0 w [(1,k0_)] [(6,k69)]∧View Lay.str A61 p62 u60 k69∧Own (Lay.sl Lay.str 9) 25 A71 p72 u68 k69
  refine wp_loop_ghost I82 fu83 ?_ ?_
  ·rw [hI82]
   exact ⟨_,_,A21,p22,(some ⟨b52,0,none⟩),1,_,h79,(hk.al rfl),(hs.pick [(6,6)] rfl),v56,o54⟩
  clear h79 hk hs
  intro fu83 a w hI0
  rw [hI82] at hI0
  obtain ⟨u60,u68,A61,p62,A71,p72,k69,hi,hk,hs,v63,o70⟩:=hI0
  obtain ⟨x84,H,h85⟩:=loop_round hi
  try dsimp only at H
  unfold impl_tree.s1 at H
  refine sq fun _ hK86=>sr fun _ hK87=>mv hk rfl fun a hk=>sle rfl hk rfl rfl rfl un25 fun a hk=>sv (.bool (decide ((u60.length:Int)>1))) hk rfl rfl rfl fun a hk=>nx hK87 ?_
  rcases cond_some H with ⟨c88,H⟩ | ⟨c88,H⟩
  ·have hk:=hk.lit 27 c88 rfl
   refine cnd_true hk rfl rfl <| wp_skip <| hK86 _ _ <| wp_block ?_
   refine sr fun _ hK89=>mv hk rfl fun a hk=>nx hK89 ?_
   have hs:=hs.pick [(6,6)] rfl
   refine sq fun _ hK90=>sr fun _ hK91=>mv hk rfl fun a hk=>nx hK91 ?_
   obtain ⟨o110,h111,HL112⟩:=bind_some H
   clear H
   obtain ⟨R113,hR113⟩:=nm fun a w=>∃ (u105:List ByteArray) (A108:Option Addr) (p109:Nat) (k106:Chunk),o110 = .out u105∧Kn [(6,(vL A71 u68.length p72)),(7,(vL A108 u105.length p109))] 53 a∧Sat [] w0 w [(1,k0_)] [(6,k69),(10,k106)]∧Own Lay.str 9 A108 p109 u105 k106
   refine wp_cutq R113 ?_ ?_
   ·refine wp_block ?_
    obtain ⟨fu115,h111⟩:=loopO_some h111
    obtain ⟨I114,hI114⟩:=nm fun fu a w=>∃ (u100:List ByteArray) (u99:Int) (A103:Option Addr) (p104:Nat) (k101:Chunk),loopN (fun s=>impl_tree.s2 u60 s.1 s.2) fu (u100,u99)=some o110∧Kn [(3,(vL A61 u60.length p62)),(6,(vL A71 u68.length p72)),(7,(vL A103 u100.length p104)),(8,(vI iS u99))] 53 a∧Sat [] w0 w [(1,k0_)] [(6,k69),(10,k101)]∧Own Lay.str 9 A103 p104 u100 k101
    refine wp_loop_ghost I114 fu115 ?_ ?_
    ·rw [hI114]
     exact ⟨_,_,none,0,_,h111,(hk.al rfl),((hs.addNil 1010).pick [(6,6),(10,1010)] rfl),Own.nil _ _⟩
    clear h111 hk hs
    intro fu115 a w hI0
    rw [hI114] at hI0
    obtain ⟨u100,u99,A103,p104,k101,hi,hk,hs,o102⟩:=hI0
    obtain ⟨x116,H,h117⟩:=loop_round hi
    try dsimp only at H
    unfold impl_tree.s2 at H
    refine sq fun _ hK118=>sr fun _ hK119=>mv hk rfl fun a hk=>mv hk rfl fun a hk=>sle rfl hk rfl rfl rfl un25 fun a hk=>sv (.bool (decide (u99<(u60.length:Int)))) hk rfl rfl rfl fun a hk=>nx hK119 ?_
    rcases cond_some H with ⟨c120,H⟩ | ⟨c120,H⟩
    ·have hk:=hk.lit 31 c120 rfl
     refine cnd_true hk rfl rfl <| wp_skip <| hK118 _ _ <| sq fun _ hK121=>wp_block ?_
     refine wp_region_tree (.q 0 (.q 1 (.q 2 (.q 3 (.q 4 (.q 5 (.alt 6 (.alt 7 (.alt 8 (.alt 9 (.alt 10 (.alt 11 (.alt 12 (.last 13) .stop) .stop) .stop) .stop) .stop) .stop) .stop))))))) mo (by kernel_rfl) (hs.pick [(6,6)] rfl) fun _=>?_
     have hs:=hs.drew
     refine tqm hk rfl fun a hk=>tqm hk rfl fun a hk=>tqm hk rfl fun a hk=>?_
     obtain ⟨c123,H⟩:=ite_no H
     obtain ⟨b124,q125,hAc123⟩:=(v63).some_ u99 c123.1 c123.2
     refine tqst _ hk rfl rfl rfl rfl (fun w hs=>si rfl hk rfl rfl rfl rfl un25 sz9 c123.1 c123.2 hAc123 fun a hk=>qe hk) fun a hk=>?_
     obtain ⟨_,rfl,e126⟩:=(v63).at_ ByteArray.empty u99 c123.1 c123.2
     refine tqst _ hk rfl rfl rfl rfl (fun w hs=>sl (v:=(vS (u60.getD u99.toNat ByteArray.empty))) rfl hk rfl rfl rfl ag9 ((e126 0 _ rfl).cell (hs.hasG (k:=6) rfl)) fun a hk=>qe hk) fun a hk=>tqm hk rfl fun a hk=>tss hs hk rfl rfl fun _ hK_r122_6 w hs=>mv hk rfl fun a hk=>se (hs.pick [(6,6)] rfl) hk (hK_r122_6 _ _ ?_)
     refine tss hs hk rfl rfl fun _ hK_r122_7 w hs=>sv (vI iS (w64 (u99+1))) hk rfl rfl rfl fun a hk=>se (hs.pick [(6,6)] rfl) hk (hK_r122_7 _ _ ?_)
     refine tss hs hk rfl rfl fun _ hK_r122_8 w hs=>?_
     obtain ⟨c127,H⟩:=ite_no H
     obtain ⟨b128,q129,hAc127⟩:=(v63).some_ (w64 (u99+1)) c127.1 c127.2
     refine si rfl hk rfl rfl rfl rfl un25 sz9 c127.1 c127.2 hAc127 fun a hk=>se (hs.pick [(6,6)] rfl) hk (hK_r122_8 _ _ ?_)
     refine tss hs hk rfl rfl fun _ hK_r122_9 w hs=>?_
     obtain ⟨_,rfl,e130⟩:=(v63).at_ ByteArray.empty (w64 (u99+1)) c127.1 c127.2
     refine sl (v:=(vS (u60.getD (w64 (u99+1)).toNat ByteArray.empty))) rfl hk rfl rfl rfl ag9 ((e130 0 _ rfl).cell (hs.hasG (k:=6) rfl)) fun a hk=>se (hs.pick [(6,6)] rfl) hk (hK_r122_9 _ _ ?_)
     refine tss hs hk rfl rfl fun _ hK_r122_10 w hs=>?_
     obtain ⟨y131,h132,H⟩:=bind_some H
     refine sc rfl en68 hk rfl rfl rfl (impl_join_t _ (u60.getD u99.toNat ByteArray.empty) (u60.getD (w64 (u99+1)).toNat ByteArray.empty) _ h132) ?_
     rintro _ w ⟨rfl,hG⟩ a hk
     have hs:=hs.call0 hG
     refine se (hs.pick [(6,6)] rfl) hk (hK_r122_10 _ _ ?_)
     refine tss hs hk rfl rfl fun _ hK_r122_11 w hs=>sbs (L:=Lay.str) (pv:=[(0,(vS y131))]) (xs:=[y131]) (ess:=[[vS y131]]) 12 hs rfl hk rfl rfl rfl un25 (bs9_12 y131) (AllOwn.cons0 ⟨rfl,rfl⟩ AllOwn.nil) rfl rfl rfl fun b133 k134 w a hk o135 hs=>se (hs.pick [(6,6)] rfl) hk (hK_r122_11 _ _ ?_)
     refine tss hs hk rfl rfl fun _ hK_r122_12 w hs=>?_
     obtain ⟨c136,H⟩:=ite_no H
     refine sap 10 (xs:=u100) (ys:=[y131]) (flat_flat:(Lay.str).Flat) hs rfl o102 o135.view (hs.hasG (k:=12) rfl) rfl hk rfl rfl rfl rfl rfl rfl un25 mk9 rfl rfl rfl c136 fun A137 p138 k139 w a hk o140 hs=>se (hs.pick [(6,6)] rfl) hk (hK_r122_12 _ _ ?_)
     refine tlst hk rfl rfl fun K_r122_13 hK_r122_13 w hF=>?_
     have hs:=hs.f hF
     refine mv hk rfl fun a hk=>se trivial hk (hK_r122_13 _ _ fun w hF=>?_)
     have hs:=hs.f hF
     refine hK121 _ _ ?_
     apply wp_region_lit
     refine mv hk rfl fun a hk=>sv (vI iS (w64 (u99+2))) hk rfl rfl rfl fun a hk=>mv hk rfl fun a hk=>?_
     show wpList _ _ _ [] _ _
     refine wpList_nil ?_
     obtain rfl:=osi H
     obtain ⟨m141,hmm141,h117⟩:=h117
     show ∃ n',n'<_∧I114 n' _ _
     refine ⟨m141,hmm141,?_⟩
     rw [hI114]
     exact ⟨_,_,A137,p138,_,h117,(hk.al rfl),(hs.pick [(6,6),(10,10)] rfl),o140⟩
    have hk:=hk.lit 31 c120 rfl
    refine cnd_false hk rfl rfl <| wp_exit ?_
    obtain rfl:=osi H
    show R113 _ _
    rw [hR113]
    exact ⟨_,A103,p104,_,h117.symm,(hk.al rfl),(hs.pick [(6,6),(10,10)] rfl),o102⟩
   intro a w hR0
   rw [hR113] at hR0
   obtain ⟨u105,A108,p109,k106,rfl,hk,hs,o107⟩:=hR0
   have H:=HL112
   try dsimp only at H
   refine hK90 _ _ <| sr fun _ hK142=>mv hk rfl fun a hk=>mv hk rfl fun a hk=>sbs1L (L:=(Lay.sl Lay.str 9)) (pv:=[(0,(vL A108 u105.length p109))]) (xs:=[u105]) (ess:=[[vL A108 u105.length p109]]) 13 10 hs rfl rfl hk rfl rfl rfl un70 (bs25_30 A108 u105.length p109) (AllOwn.one ⟨_,rfl,o107.toV⟩) rfl rfl rfl fun b143 k144 w a hk o145 hs hE146x=>?_
   obtain ⟨_,_,hE146⟩:=hE146x
   have v147:View Lay.str A108 p109 u105 k144:=(o107.view).mono (fun z hz=>by rw [hE146];exact List.mem_cons_of_mem _ hz)
   obtain ⟨c148,H⟩:=ite_no H
   refine sapmL 6 13 (xs:=u68) (ys:=[u105]) hs rfl rfl o70 o145 rfl hk rfl rfl rfl rfl rfl rfl un70 mk25 rfl rfl rfl c148 fun A149 p150 k151 w a hk o152 hs hS153=>?_
   have v154:View Lay.str A108 p109 u105 k151:=(o107.view).mono (hS153 _ _ _ hE146)
   refine mv hk rfl fun a hk=>nx hK142 ?_
   apply wp_region_lit
   refine mv hk rfl fun a hk=>mv hk rfl fun a hk=>?_
   show wpList _ _ _ [] _ _
   refine wpList_nil ?_
   obtain rfl:=osi H
   obtain ⟨m155,hmm155,h85⟩:=h85
   show ∃ n',n'<_∧I82 n' _ _
   refine ⟨m155,hmm155,?_⟩
   rw [hI82]
   exact ⟨_,_,A108,p109,A149,p150,_,h85,(hk.al rfl),(hs.pick [(6,6)] rfl),v154,o152⟩
  have hk:=hk.lit 27 c88 rfl
  refine cnd_false hk rfl rfl <| wp_exit ?_
  obtain rfl:=osi H
  show R81 _ _
  rw [hR81]
  exact ⟨_,A71,p72,_,h85.symm,(hk.al rfl),(hs.pick [(6,6)] rfl),o70⟩
 intro a w hR0
 rw [hR81] at hR0
 obtain ⟨u73,A76,p77,k74,rfl,hk,hs,o75⟩:=hR0
 have H:=HL80
 try dsimp only at H
 refine hK57 _ _ <| sr fun _ hK156=>mv hk rfl fun a hk=>mv hk rfl fun a hk=>nx hK156 <| wp_ret ?_
 obtain rfl:=osi H
 exact fin hk _ [(vL A76 u73.length p77)] rfl ⟨rfl,trivial⟩ ⟨A76,p77,_,rfl,o75,(hs.pick [(0,6)] rfl).dnil⟩
noncomputable def impl_root.f (l0:List ByteArray):Option (ByteArray) :=
  ((impl_tree.f l0).bind fun y3=>(if 0≤(4:Int)∧(4:Int)<(y3.length:Int) then (if 0≤(0:Int)∧(0:Int)<((y3.getD (4:Int).toNat []).length:Int) then (some ((y3.getD (4:Int).toNat []).getD (0:Int).toNat ByteArray.empty)) else none) else none))
theorem impl_root_t (w0:World) (A0_:Option Addr) (p0_:Nat) (l0:List ByteArray) (k0_:Chunk) (v0_:View Lay.str A0_ p0_ l0 k0_) (w0_:Has w0 k0_) (r:ByteArray) (H:impl_root.f l0=some r) :
    Calls Tryz.prog 19 #[vL A0_ l0.length p0_] w0 (Ret (fun v w=>v=vS r∧Sat [] w0 w [] [])):=by
 have hs:=sat0 w0 [(1,k0_)] (by simp only [List.mem_cons,List.not_mem_nil,or_false];rintro x (rfl) <;> assumption)
 unfold impl_root.f at H
 refine enter Tryz.func19 rfl Tryz.ntmps19 rfl fun a hk=>sr fun _ hK1=>mv hk rfl fun a hk=>nx hK1 <| sr fun _ hK2=>mv hk rfl fun a hk=>?_
 obtain ⟨y3,h4,H⟩:=bind_some H
 refine sc rfl en39 hk rfl rfl rfl (impl_tree_t _ A0_ p0_ l0 _ v0_ (hs.hasD (k:=1) rfl) _ h4) ?_
 rintro _ w ⟨A5,p6,k7,rfl,o8,hG⟩ a hk
 have hs:=hs.call0k hG [2] rfl
 obtain ⟨c9,H⟩:=ite_no H
 obtain ⟨b10,q11,hAc9⟩:=(o8.view).some_ (4:Int) c9.1 c9.2
 refine si rfl hk rfl rfl rfl rfl un70 sz25 c9.1 c9.2 hAc9 fun a hk=>?_
 obtain ⟨_,⟨_,rfl,A13,p14,rfl,v15⟩,e12⟩:=(o8.view).at_ [] (4:Int) c9.1 c9.2
 refine sl (v:=(vL A13 (y3.getD (4:Int).toNat []).length p14)) rfl hk rfl rfl rfl ag25 ((e12 0 _ rfl).cell (hs.hasG (k:=2) rfl)) fun a hk=>?_
 obtain ⟨c16,H⟩:=ite_no H
 obtain ⟨b17,q18,hAc16⟩:=(v15).some_ (0:Int) c16.1 c16.2
 refine si rfl hk rfl rfl rfl rfl un25 sz9 c16.1 c16.2 hAc16 fun a hk=>?_
 obtain ⟨_,rfl,e19⟩:=(v15).at_ ByteArray.empty (0:Int) c16.1 c16.2
 refine sl (v:=(vS ((y3.getD (4:Int).toNat []).getD (0:Int).toNat ByteArray.empty))) rfl hk rfl rfl rfl ag9 ((e19 0 _ rfl).cell (hs.hasG (k:=2) rfl)) fun a hk=>mv hk rfl fun a hk=>nx hK2 <| wp_ret ?_
 obtain rfl:=osi H
 exact fin hk _ [(vS ((y3.getD (4:Int).toNat []).getD (0:Int).toNat ByteArray.empty))] rfl ⟨rfl,trivial⟩ ⟨rfl,(hs.pick [] rfl).dnil⟩
noncomputable def impl_Init.f (x0:ByteArray) (l1:List Int):Option (S_Store×Int) :=
  ((((impl_areShort.f ([x0])).bind fun y14=>(bif (!y14) then (some true) else (some (decide ((l1.length:Int)>4096))))):Option (Bool)).bind fun u6=>(bif u6 then (some ((⟨ByteArray.empty,(⟨0,0,0,0,ByteArray.empty,ByteArray.empty,ByteArray.empty⟩:S_Register),(⟨([]:List ByteArray),([]:List S_Io)⟩:S_Device),false,false⟩:S_Store),2)) else (bif ((x0.size:Int) != 32) then (some ((⟨ByteArray.empty,(⟨0,0,0,0,ByteArray.empty,ByteArray.empty,ByteArray.empty⟩:S_Register),(⟨([]:List ByteArray),([]:List S_Io)⟩:S_Device),false,false⟩:S_Store),8)) else ((impl_NewEnc.f l1).bind fun y23=>(bif (y23.2 != 0) then (some ((⟨ByteArray.empty,(⟨0,0,0,0,ByteArray.empty,ByteArray.empty,ByteArray.empty⟩:S_Register),(⟨([]:List ByteArray),([]:List S_Io)⟩:S_Device),false,false⟩:S_Store),y23.2)) else ((impl_NewDevice.f).bind fun y47=>((impl_sideSectors.f x0 0 y23.1 ([]:List S_Result) 0).bind fun y59=>(if 0<y59.length∧y59.length≤y47.Sure.length then ((impl_firstTip.f).bind fun y71=>((impl_firstTip.f).bind fun y73=>((impl_root.f y59).bind fun y75=>(some ((⟨x0,(⟨0,0,0,0,y71,y73,y75⟩:S_Register),(⟨(y59++y47.Sure.drop y59.length),y47.Unsure⟩:S_Device),true,false⟩:S_Store),0))))) else none))))))))
theorem impl_Init_t (w0:World) (x0:ByteArray) (A1_:Option Addr) (p1_:Nat) (l1:List Int) (k1_:Chunk) (v1_:View (Lay.int iS) A1_ p1_ l1 k1_) (w1_:Has w0 k1_) (r:S_Store×Int) (H:impl_Init.f x0 l1=some r) :
    Calls Tryz.prog 6 #[vS x0,vL A1_ l1.length p1_] w0 (Ret (fun v w=>∃ (A0:Option Addr) (p0:Nat) (k0:Chunk),∃ (A1:Option Addr) (p1:Nat) (k1:Chunk),v = .tuple #[.agg #[vS r.1.Key,vI iS r.1.Reg.Epoch,vI iS r.1.Reg.Side,vI iS r.1.Reg.Count,vI iS r.1.Reg.Boot,vS r.1.Reg.Base,vS r.1.Reg.Tip,vS r.1.Reg.Root,vL A0 r.1.Device.Sure.length p0,vL A1 r.1.Device.Unsure.length p1,.bool r.1.Up,.bool r.1.Dead],vI iS r.2]∧Own Lay.str 9 A0 p0 r.1.Device.Sure k0∧Own L_Io 84 A1 p1 r.1.Device.Unsure k1∧Sat [] w0 w [] [(0,k0),(1,k1)])):=by
 have hs:=sat0 w0 [(1,k1_)] (by simp only [List.mem_cons,List.not_mem_nil,or_false];rintro x (rfl) <;> assumption)
 unfold impl_Init.f at H
 refine enter Tryz.func6 rfl Tryz.ntmps6 rfl fun a hk=>sr fun _ hK1=>salx 2 hs rfl hk rfl rfl ze30 rfl fun b2 w a hk hs=>mv hk rfl fun a hk=>nx hK1 <| sq fun _ hK3=>wp_block <| sq fun _ hK4=>?_
 obtain ⟨o7,h8,HL9⟩:=bind_some H
 clear H
 obtain ⟨R10,hR10⟩:=nm fun a w=>∃ (u6:Bool),u6=o7∧Kn [(0,(vS x0)),(1,(vL A1_ l1.length p1_)),(4,(vP (some ⟨b2,0,none⟩))),(10,(.bool u6))] 53 a∧Sat [] w0 w [(1,k1_)] [(2,[(b2,.cells #[vS ByteArray.empty,vI iS 0,vI iS 0,vI iS 0,vI iS 0,vS ByteArray.empty,vS ByteArray.empty,vS ByteArray.empty,vL none 0 0,vL none 0 0,.bool false,.bool false] 30 (0,0))])]
 refine wp_cutq R10 ?_ ?_
 ·have H:=h8
  apply wp_region_lit
  refine mv hk rfl fun a hk=>sbs (L:=Lay.str) (pv:=[(0,(vS x0))]) (xs:=[x0]) (ess:=[[vS x0]]) 4 hs rfl hk rfl rfl rfl un25 (bs9_12 x0) (AllOwn.cons0 ⟨rfl,rfl⟩ AllOwn.nil) rfl rfl rfl fun b11 k12 w a hk o13 hs=>?_
  obtain ⟨y14,h15,H⟩:=bind_some H
  refine sc rfl en14 hk rfl rfl rfl (impl_areShort_t _ (some ⟨b11,0,none⟩) 1 ([x0]) _ o13.view (hs.hasG (k:=4) rfl) _ h15) ?_
  rintro _ w ⟨rfl,hG⟩ a hk
  have hs:=hs.call0 hG
  refine sv (.bool (!y14)) hk rfl rfl rfl fun a hk=>mv hk rfl fun a hk=>?_
  rcases cond_some H with ⟨c16,H⟩ | ⟨c16,H⟩
  ·have hk:=hk.lit 15 c16 rfl
   refine sk hk rfl rfl rfl fun a hk=>sk hk rfl rfl rfl fun a hk=>sk hk rfl rfl rfl fun a hk=>sv (.bool true) hk rfl rfl rfl fun a hk=>mv hk rfl fun a hk=>?_
   show wpList _ _ _ [] _ _
   refine wpList_nil ?_
   obtain rfl:=osi H
   show R10 _ _
   rw [hR10]
   exact ⟨true,rfl,(hk.al rfl),(hs.pick [(2,2)] rfl)⟩
  have hk:=hk.lit 15 c16 rfl
  refine mv hk rfl fun a hk=>sle rfl hk rfl rfl rfl un22 fun a hk=>sv (.bool (decide ((l1.length:Int)>4096))) hk rfl rfl rfl fun a hk=>sv (.bool (decide ((l1.length:Int)>4096))) hk rfl rfl rfl fun a hk=>mv hk rfl fun a hk=>?_
  show wpList _ _ _ [] _ _
  refine wpList_nil ?_
  obtain rfl:=osi H
  show R10 _ _
  rw [hR10]
  exact ⟨(decide ((l1.length:Int)>4096)),rfl,(hk.al rfl),(hs.pick [(2,2)] rfl)⟩
 intro a w hR0
 rw [hR10] at hR0
 obtain ⟨u6,rfl,hk,hs⟩:=hR0
 have H:=HL9
 try dsimp only at H
 refine hK4 _ _ ?_
 rcases cond_some H with ⟨c17,H⟩ | ⟨c17,H⟩
 ·have hk:=hk.lit 10 c17 rfl
  refine cnd_true hk rfl rfl <| sr fun _ hK18=>sbd (pv:=[]) rfl hk rfl rfl rfl bd30_23 fun a hk=>ssw 2 hs rfl rfl hk rfl rfl rfl rfl sz30 (by simp [Value.oneCell']) rfl fun w a hk hs=>mv hk rfl fun a hk=>nx hK18 <| wp_ret ?_
  obtain rfl:=osi H
  have hs:=hs.addNil 5
  have hs:=hs.addNil 6
  exact fin hk _ [(.agg #[vS ByteArray.empty,vI iS 0,vI iS 0,vI iS 0,vI iS 0,vS ByteArray.empty,vS ByteArray.empty,vS ByteArray.empty,vL none 0 0,vL none 0 0,.bool false,.bool false]),(vI iS 2)] rfl ⟨⟨_,rfl,run_loadN ag30 sz30 (box_cells hs (k:=2) rfl)⟩,⟨rfl,trivial⟩⟩ ⟨none,0,[],none,0,[],rfl,Own.nil _ _,Own.nil _ _,(hs.pick [(0,5),(1,6)] rfl).dnil⟩
 have hk:=hk.lit 10 c17 rfl
 refine cnd_false hk rfl rfl <| sr fun _ hK19=>mv hk rfl fun a hk=>sles rfl hk rfl rfl rfl un9 fun a hk=>sv (.bool ((x0.size:Int) != 32)) hk rfl rfl rfl fun a hk=>mv hk rfl fun a hk=>nx hK19 ?_
 rcases cond_some H with ⟨c20,H⟩ | ⟨c20,H⟩
 ·have hk:=hk.lit 21 c20 rfl
  refine cnd_true hk rfl rfl <| sr fun _ hK21=>sbd (pv:=[]) rfl hk rfl rfl rfl bd30_23 fun a hk=>ssw 2 hs rfl rfl hk rfl rfl rfl rfl sz30 (by simp [Value.oneCell']) rfl fun w a hk hs=>mv hk rfl fun a hk=>nx hK21 <| wp_ret ?_
  obtain rfl:=osi H
  have hs:=hs.addNil 7
  have hs:=hs.addNil 8
  exact fin hk _ [(.agg #[vS ByteArray.empty,vI iS 0,vI iS 0,vI iS 0,vI iS 0,vS ByteArray.empty,vS ByteArray.empty,vS ByteArray.empty,vL none 0 0,vL none 0 0,.bool false,.bool false]),(vI iS 8)] rfl ⟨⟨_,rfl,run_loadN ag30 sz30 (box_cells hs (k:=2) rfl)⟩,⟨rfl,trivial⟩⟩ ⟨none,0,[],none,0,[],rfl,Own.nil _ _,Own.nil _ _,(hs.pick [(0,7),(1,8)] rfl).dnil⟩
 have hk:=hk.lit 21 c20 rfl
 refine cnd_false hk rfl rfl <| wp_skip <| hK3 _ _ <| sr fun _ hK22=>mv hk rfl fun a hk=>?_
 obtain ⟨y23,h24,H⟩:=bind_some H
 refine sc rfl en15 hk rfl rfl rfl (impl_NewEnc_t _ A1_ p1_ l1 _ v1_ (hs.hasD (k:=1) rfl) _ h24) ?_
 rintro _ w ⟨A25,p26,k27,A29,p30,k31,A33,p34,k35,A37,p38,k39,rfl,o28,o32,o36,o40,hG⟩ a hk
 have hs:=hs.call0k hG [9,10,11,12] rfl
 refine mv hk rfl fun a hk=>sv (.agg #[vL A25 y23.1.Keys.length p26,vL A29 y23.1.Oram.Pos.length p30,vL A33 y23.1.Oram.Stash.length p34,vL A37 y23.1.Oram.Buckets.length p38]) hk rfl rfl rfl fun a hk=>sv (vI iS y23.2) hk rfl rfl rfl fun a hk=>salx 13 hs rfl hk rfl rfl ze47 rfl fun b41 w a hk hs=>ssw 13 hs rfl rfl hk rfl rfl rfl rfl sz47 (by simp [Value.oneCell']) rfl fun w a hk hs=>mv hk rfl fun a hk=>nx hK22 <| sq fun _ hK42=>sr fun _ hK43=>mv hk rfl fun a hk=>sv (.bool (y23.2 != 0)) hk rfl rfl rfl fun a hk=>nx hK43 ?_
 rcases cond_some H with ⟨c44,H⟩ | ⟨c44,H⟩
 ·have hk:=hk.lit 32 c44 rfl
  refine cnd_true hk rfl rfl <| sr fun _ hK45=>sbd (pv:=[]) rfl hk rfl rfl rfl bd30_23 fun a hk=>mv hk rfl fun a hk=>ssw 2 hs rfl rfl hk rfl rfl rfl rfl sz30 (by simp [Value.oneCell']) rfl fun w a hk hs=>mv hk rfl fun a hk=>nx hK45 <| wp_ret ?_
  obtain rfl:=osi H
  have hs:=hs.addNil 14
  have hs:=hs.addNil 15
  exact fin hk _ [(.agg #[vS ByteArray.empty,vI iS 0,vI iS 0,vI iS 0,vI iS 0,vS ByteArray.empty,vS ByteArray.empty,vS ByteArray.empty,vL none 0 0,vL none 0 0,.bool false,.bool false]),(vI iS y23.2)] rfl ⟨⟨_,rfl,run_loadN ag30 sz30 (box_cells hs (k:=2) rfl)⟩,⟨rfl,trivial⟩⟩ ⟨none,0,[],none,0,[],rfl,Own.nil _ _,Own.nil _ _,(hs.pick [(0,14),(1,15)] rfl).dnil⟩
 have hk:=hk.lit 32 c44 rfl
 refine cnd_false hk rfl rfl <| wp_skip <| hK42 _ _ <| sr fun _ hK46=>mv hk rfl fun a hk=>?_
 obtain ⟨y47,h48,H⟩:=bind_some H
 refine sc rfl en16 hk rfl rfl rfl (impl_NewDevice_t _ _ h48) ?_
 rintro _ w ⟨A49,p50,k51,A53,p54,k55,rfl,o52,o56,hG⟩ a hk
 have hs:=hs.call0k hG [16,17] rfl
 refine sbd (pv:=[(0,(vS x0)),(2,(.agg #[vL A49 y47.Sure.length p50,vL A53 y47.Unsure.length p54])),(3,(.bool true))]) rfl hk rfl rfl rfl (bd30_31 x0 A49 y47.Sure.length p50 A53 y47.Unsure.length p54 true) fun a hk=>salx 18 hs rfl hk rfl rfl ze30 rfl fun b57 w a hk hs=>ssw 18 hs rfl rfl hk rfl rfl rfl rfl sz30 (by simp [Value.oneCell']) rfl fun w a hk hs=>nx hK46 ?_
 have hs:=hs.pick [(2,2),(13,13),(9,9),(10,10),(11,11),(12,12),(18,18),(16,16),(17,17)] rfl
 refine sr fun _ hK58=>mv hk rfl fun a hk=>sln [vL A25 y23.1.Keys.length p26,vL A29 y23.1.Oram.Pos.length p30,vL A33 y23.1.Oram.Stash.length p34,vL A37 y23.1.Oram.Buckets.length p38] rfl hk rfl rfl rfl ag47 sz47 (box_cells hs (k:=13) rfl) fun a hk=>?_
 obtain ⟨y59,h60,H⟩:=bind_some H
 refine sc rfl en17 hk rfl rfl rfl (impl_sideSectors_t _ x0 0 y23.1 A25 p26 _ o28.view (hs.hasG (k:=9) rfl) A29 p30 _ o32.view (hs.hasG (k:=10) rfl) A33 p34 _ o36.view (hs.hasG (k:=11) rfl) A37 p38 _ o40.view (hs.hasG (k:=12) rfl) none 0 ([]:List S_Result) [] (View.nil _) (Has.nil _) 0 _ h60) ?_
 rintro _ w ⟨A61,p62,k63,rfl,o64,hG⟩ a hk
 have hs:=hs.call0k hG [19] rfl
 refine mv hk rfl fun a hk=>nx hK58 <| sr fun _ hK65=>sf ⟨b57,8,none⟩ rfl hk rfl rfl rfl fd30_2 rfl fun a hk=>sf ⟨b57,8,none⟩ rfl hk rfl rfl rfl fd28_0 rfl fun a hk=>sl rfl hk rfl rfl rfl ag25 (box_cell hs (k:=18) rfl rfl) fun a hk=>mv hk rfl fun a hk=>?_
 obtain ⟨c66,H⟩:=ite_no H
 refine scpS 16 (xs:=y47.Sure) (ys:=y59) hs rfl o52 o64.view (hs.hasG (k:=19) rfl) rfl hk rfl rfl rfl rfl rfl rfl un25 sz9 c66.1 c66.2 fun k67 w a hk o68 hs=>?_
 have lh69:(y59++y47.Sure.drop y59.length).length=y47.Sure.length:=by have:=c66;rw [List.length_append,List.length_drop];omega
 refine nx hK65 <| sr fun _ hK70=>?_
 obtain ⟨y71,h72,H⟩:=bind_some H
 refine sc rfl en18 hk rfl rfl rfl (impl_firstTip_t _ _ h72) ?_
 rintro _ w ⟨rfl,hG⟩ a hk
 have hs:=hs.call0 hG
 obtain ⟨y73,h74,H⟩:=bind_some H
 refine sc rfl en18 hk rfl rfl rfl (impl_firstTip_t _ _ h74) ?_
 rintro _ w ⟨rfl,hG⟩ a hk
 have hs:=hs.call0 hG
 refine mv hk rfl fun a hk=>?_
 obtain ⟨y75,h76,H⟩:=bind_some H
 refine sc rfl en19 hk rfl rfl rfl (impl_root_t _ A61 p62 y59 _ o64.view (hs.hasG (k:=19) rfl) _ h76) ?_
 rintro _ w ⟨rfl,hG⟩ a hk
 have hs:=hs.call0 hG
 refine sbd (pv:=[(4,(vS y71)),(5,(vS y73)),(6,(vS y75))]) rfl hk rfl rfl rfl (bd24_21 y71 y73 y75) fun a hk=>sf ⟨b57,1,none⟩ rfl hk rfl rfl rfl fd30_1 rfl fun a hk=>ssp (cs':=#[vS x0,vI iS 0,vI iS 0,vI iS 0,vI iS 0,vS y71,vS y73,vS y75,vL A49 y47.Sure.length p50,vL A53 y47.Unsure.length p54,.bool true,.bool false]) 18 hs rfl rfl hk rfl rfl rfl rfl sz24 (by simp [Value.oneCell']) rfl rfl fun w a hk hs=>nx hK70 <| sr fun _ hK77=>sln [vS x0,vI iS 0,vI iS 0,vI iS 0,vI iS 0,vS y71,vS y73,vS y75,vL A49 y47.Sure.length p50,vL A53 y47.Unsure.length p54,.bool true,.bool false] rfl hk rfl rfl rfl ag30 sz30 (box_cells hs (k:=18) rfl) fun a hk=>ssw 2 hs rfl rfl hk rfl rfl rfl rfl sz30 (by simp [Value.oneCell']) rfl fun w a hk hs=>mv hk rfl fun a hk=>nx hK77 <| wp_ret ?_
 obtain rfl:=osi H
 exact fin hk _ [(.agg #[vS x0,vI iS 0,vI iS 0,vI iS 0,vI iS 0,vS y71,vS y73,vS y75,vL A49 y47.Sure.length p50,vL A53 y47.Unsure.length p54,.bool true,.bool false]),(vI iS 0)] rfl ⟨⟨_,rfl,run_loadN ag30 sz30 (box_cells hs (k:=2) rfl)⟩,⟨rfl,trivial⟩⟩ ⟨A49,p50,_,A53,p54,_,(by first | (rw [lh69];done) | (rw [lh69];rfl)),o68,o56,(hs.pick [(0,16),(1,17)] rfl).dnil⟩
noncomputable def laws_eqRegister.f (x0:S_Register) (x1:S_Register):Option (Bool) :=
  (bif (x0.Epoch != x1.Epoch) then (some false) else (bif (x0.Side != x1.Side) then (some false) else (bif (x0.Count != x1.Count) then (some false) else (bif (x0.Boot != x1.Boot) then (some false) else (bif (!(x0.Base.toList==x1.Base.toList)) then (some false) else (bif (!(x0.Tip.toList==x1.Tip.toList)) then (some false) else (bif (!(x0.Root.toList==x1.Root.toList)) then (some false) else (some true))))))))
theorem laws_eqRegister_t (w0:World) (x0:S_Register) (x1:S_Register) (r:Bool) (H:laws_eqRegister.f x0 x1=some r) :
    Calls Tryz.prog 20 #[.agg #[vI iS x0.Epoch,vI iS x0.Side,vI iS x0.Count,vI iS x0.Boot,vS x0.Base,vS x0.Tip,vS x0.Root],.agg #[vI iS x1.Epoch,vI iS x1.Side,vI iS x1.Count,vI iS x1.Boot,vS x1.Base,vS x1.Tip,vS x1.Root]] w0 (Ret (fun v w=>v = .bool r∧Sat [] w0 w [] [])):=by
 have hs:=sat0 w0 [] (by simp)
 unfold laws_eqRegister.f at H
 refine enter Tryz.func20 rfl Tryz.ntmps20 rfl fun a hk=>sr fun _ hK1=>sbx 1 hs rfl hk rfl rfl rfl rfl fun b2 w a hk hs=>sbx 2 hs rfl hk rfl rfl rfl rfl fun b3 w a hk hs=>mv hk rfl fun a hk=>nx hK1 <| sq fun _ hK4=>sr fun _ hK5=>sf ⟨b2,0,none⟩ rfl hk rfl rfl rfl fd24_0 rfl fun a hk=>sl rfl hk rfl rfl rfl ag3 (box_cell hs (k:=1) rfl rfl) fun a hk=>sf ⟨b3,0,none⟩ rfl hk rfl rfl rfl fd24_0 rfl fun a hk=>sl rfl hk rfl rfl rfl ag3 (box_cell hs (k:=2) rfl rfl) fun a hk=>sv (.bool (x0.Epoch != x1.Epoch)) hk rfl rfl rfl fun a hk=>nx hK5 ?_
 rcases cond_some H with ⟨c6,H⟩ | ⟨c6,H⟩
 ·have hk:=hk.lit 9 c6 rfl
  refine cnd_true hk rfl rfl <| sr fun _ hK7=>mv hk rfl fun a hk=>nx hK7 <| wp_ret ?_
  obtain rfl:=osi H
  exact fin hk _ [(.bool false)] rfl ⟨rfl,trivial⟩ ⟨rfl,(hs.pick [] rfl).dnil⟩
 have hk:=hk.lit 9 c6 rfl
 refine cnd_false hk rfl rfl <| wp_skip <| hK4 _ _ <| sq fun _ hK8=>sr fun _ hK9=>sf ⟨b2,1,none⟩ rfl hk rfl rfl rfl fd24_1 rfl fun a hk=>sl rfl hk rfl rfl rfl ag3 (box_cell hs (k:=1) rfl rfl) fun a hk=>sf ⟨b3,1,none⟩ rfl hk rfl rfl rfl fd24_1 rfl fun a hk=>sl rfl hk rfl rfl rfl ag3 (box_cell hs (k:=2) rfl rfl) fun a hk=>sv (.bool (x0.Side != x1.Side)) hk rfl rfl rfl fun a hk=>nx hK9 ?_
 rcases cond_some H with ⟨c10,H⟩ | ⟨c10,H⟩
 ·have hk:=hk.lit 14 c10 rfl
  refine cnd_true hk rfl rfl <| sr fun _ hK11=>mv hk rfl fun a hk=>nx hK11 <| wp_ret ?_
  obtain rfl:=osi H
  exact fin hk _ [(.bool false)] rfl ⟨rfl,trivial⟩ ⟨rfl,(hs.pick [] rfl).dnil⟩
 have hk:=hk.lit 14 c10 rfl
 refine cnd_false hk rfl rfl <| wp_skip <| hK8 _ _ <| sq fun _ hK12=>sr fun _ hK13=>sf ⟨b2,2,none⟩ rfl hk rfl rfl rfl fd24_2 rfl fun a hk=>sl rfl hk rfl rfl rfl ag3 (box_cell hs (k:=1) rfl rfl) fun a hk=>sf ⟨b3,2,none⟩ rfl hk rfl rfl rfl fd24_2 rfl fun a hk=>sl rfl hk rfl rfl rfl ag3 (box_cell hs (k:=2) rfl rfl) fun a hk=>sv (.bool (x0.Count != x1.Count)) hk rfl rfl rfl fun a hk=>nx hK13 ?_
 rcases cond_some H with ⟨c14,H⟩ | ⟨c14,H⟩
 ·have hk:=hk.lit 19 c14 rfl
  refine cnd_true hk rfl rfl <| sr fun _ hK15=>mv hk rfl fun a hk=>nx hK15 <| wp_ret ?_
  obtain rfl:=osi H
  exact fin hk _ [(.bool false)] rfl ⟨rfl,trivial⟩ ⟨rfl,(hs.pick [] rfl).dnil⟩
 have hk:=hk.lit 19 c14 rfl
 refine cnd_false hk rfl rfl <| wp_skip <| hK12 _ _ <| sq fun _ hK16=>sr fun _ hK17=>sf ⟨b2,3,none⟩ rfl hk rfl rfl rfl fd24_3 rfl fun a hk=>sl rfl hk rfl rfl rfl ag3 (box_cell hs (k:=1) rfl rfl) fun a hk=>sf ⟨b3,3,none⟩ rfl hk rfl rfl rfl fd24_3 rfl fun a hk=>sl rfl hk rfl rfl rfl ag3 (box_cell hs (k:=2) rfl rfl) fun a hk=>sv (.bool (x0.Boot != x1.Boot)) hk rfl rfl rfl fun a hk=>nx hK17 ?_
 have hs:=hs.pick [(1,1),(2,2)] rfl
 rcases cond_some H with ⟨c18,H⟩ | ⟨c18,H⟩
 ·have hk:=hk.lit 24 c18 rfl
  refine cnd_true hk rfl rfl <| sr fun _ hK19=>mv hk rfl fun a hk=>nx hK19 <| wp_ret ?_
  obtain rfl:=osi H
  exact fin hk _ [(.bool false)] rfl ⟨rfl,trivial⟩ ⟨rfl,(hs.pick [] rfl).dnil⟩
 have hk:=hk.lit 24 c18 rfl
 refine cnd_false hk rfl rfl <| wp_skip <| hK16 _ _ <| sq fun _ hK20=>sr fun _ hK21=>sf ⟨b2,4,none⟩ rfl hk rfl rfl rfl fd24_4 rfl fun a hk=>sl rfl hk rfl rfl rfl ag9 (box_cell hs (k:=1) rfl rfl) fun a hk=>sf ⟨b3,4,none⟩ rfl hk rfl rfl rfl fd24_4 rfl fun a hk=>sl rfl hk rfl rfl rfl ag9 (box_cell hs (k:=2) rfl rfl) fun a hk=>sv (.bool (!(x0.Base.toList==x1.Base.toList))) hk rfl rfl rfl fun a hk=>nx hK21 ?_
 rcases cond_some H with ⟨c22,H⟩ | ⟨c22,H⟩
 ·have hk:=hk.lit 29 c22 rfl
  refine cnd_true hk rfl rfl <| sr fun _ hK23=>mv hk rfl fun a hk=>nx hK23 <| wp_ret ?_
  obtain rfl:=osi H
  exact fin hk _ [(.bool false)] rfl ⟨rfl,trivial⟩ ⟨rfl,(hs.pick [] rfl).dnil⟩
 have hk:=hk.lit 29 c22 rfl
 refine cnd_false hk rfl rfl <| wp_skip <| hK20 _ _ <| sq fun _ hK24=>sr fun _ hK25=>sf ⟨b2,5,none⟩ rfl hk rfl rfl rfl fd24_5 rfl fun a hk=>sl rfl hk rfl rfl rfl ag9 (box_cell hs (k:=1) rfl rfl) fun a hk=>sf ⟨b3,5,none⟩ rfl hk rfl rfl rfl fd24_5 rfl fun a hk=>sl rfl hk rfl rfl rfl ag9 (box_cell hs (k:=2) rfl rfl) fun a hk=>sv (.bool (!(x0.Tip.toList==x1.Tip.toList))) hk rfl rfl rfl fun a hk=>nx hK25 ?_
 rcases cond_some H with ⟨c26,H⟩ | ⟨c26,H⟩
 ·have hk:=hk.lit 34 c26 rfl
  refine cnd_true hk rfl rfl <| sr fun _ hK27=>mv hk rfl fun a hk=>nx hK27 <| wp_ret ?_
  obtain rfl:=osi H
  exact fin hk _ [(.bool false)] rfl ⟨rfl,trivial⟩ ⟨rfl,(hs.pick [] rfl).dnil⟩
 have hk:=hk.lit 34 c26 rfl
 refine cnd_false hk rfl rfl <| wp_skip <| hK24 _ _ <| sq fun _ hK28=>sr fun _ hK29=>sf ⟨b2,6,none⟩ rfl hk rfl rfl rfl fd24_6 rfl fun a hk=>sl rfl hk rfl rfl rfl ag9 (box_cell hs (k:=1) rfl rfl) fun a hk=>sf ⟨b3,6,none⟩ rfl hk rfl rfl rfl fd24_6 rfl fun a hk=>sl rfl hk rfl rfl rfl ag9 (box_cell hs (k:=2) rfl rfl) fun a hk=>sv (.bool (!(x0.Root.toList==x1.Root.toList))) hk rfl rfl rfl fun a hk=>nx hK29 ?_
 rcases cond_some H with ⟨c30,H⟩ | ⟨c30,H⟩
 ·have hk:=hk.lit 39 c30 rfl
  refine cnd_true hk rfl rfl <| sr fun _ hK31=>mv hk rfl fun a hk=>nx hK31 <| wp_ret ?_
  obtain rfl:=osi H
  exact fin hk _ [(.bool false)] rfl ⟨rfl,trivial⟩ ⟨rfl,(hs.pick [] rfl).dnil⟩
 have hk:=hk.lit 39 c30 rfl
 refine cnd_false hk rfl rfl <| wp_skip <| hK28 _ _ <| sr fun _ hK32=>mv hk rfl fun a hk=>nx hK32 ?_
 have hs:=hs.pick [] rfl
 refine wp_ret ?_
 obtain rfl:=osi H
 exact fin hk _ [(.bool true)] rfl ⟨rfl,trivial⟩ ⟨rfl,(hs.pick [] rfl).dnil⟩
noncomputable def laws_eqStringS.s0 (l0:List ByteArray) (l1:List ByteArray) (u10:Int):Option ((Int) ⊕ Ex (Unit) (Bool)) :=
  (bif (decide (u10<(l0.length:Int))) then (if 0≤u10∧u10<(l0.length:Int) then (if 0≤u10∧u10<(l1.length:Int) then (bif (!((l0.getD u10.toNat ByteArray.empty).toList==(l1.getD u10.toNat ByteArray.empty).toList)) then (some (.inr (.ret false))) else (some (.inl (w64 (u10+1))))) else none) else none) else (some (.inr (.out ()))))
noncomputable def laws_eqStringS.f (l0:List ByteArray) (l1:List ByteArray):Option (Bool) :=
  (bif ((l0.length:Int) != (l1.length:Int)) then (some false) else ((loopO (fun s=>laws_eqStringS.s0 l0 l1 s) 0).bind fun o=>match o with | .out _=>(some true) | .ret r=>(some r)))
theorem laws_eqStringS_t (w0:World) (A0_:Option Addr) (p0_:Nat) (l0:List ByteArray) (k0_:Chunk) (v0_:View Lay.str A0_ p0_ l0 k0_) (w0_:Has w0 k0_) (A1_:Option Addr) (p1_:Nat) (l1:List ByteArray) (k1_:Chunk) (v1_:View Lay.str A1_ p1_ l1 k1_) (w1_:Has w0 k1_) (r:Bool) (H:laws_eqStringS.f l0 l1=some r) :
    Calls Tryz.prog 40 #[vL A0_ l0.length p0_,vL A1_ l1.length p1_] w0 (Ret (fun v w=>v = .bool r∧Sat [] w0 w [] [])):=by
 have hs:=sat0 w0 [(1,k0_),(2,k1_)] (by simp only [List.mem_cons,List.not_mem_nil,or_false];rintro x (rfl | rfl) <;> assumption)
 unfold laws_eqStringS.f at H
 refine enter Tryz.func40 rfl Tryz.ntmps40 rfl fun a hk=>sr fun _ hK1=>mv hk rfl fun a hk=>nx hK1 <| sq fun _ hK2=>sr fun _ hK3=>mv hk rfl fun a hk=>sle rfl hk rfl rfl rfl un25 fun a hk=>mv hk rfl fun a hk=>sle rfl hk rfl rfl rfl un25 fun a hk=>sv (.bool ((l0.length:Int) != (l1.length:Int))) hk rfl rfl rfl fun a hk=>nx hK3 ?_
 rcases cond_some H with ⟨c4,H⟩ | ⟨c4,H⟩
 ·have hk:=hk.lit 10 c4 rfl
  refine cnd_true hk rfl rfl <| sr fun _ hK5=>mv hk rfl fun a hk=>nx hK5 <| wp_ret ?_
  obtain rfl:=osi H
  exact fin hk _ [(.bool false)] rfl ⟨rfl,trivial⟩ ⟨rfl,(hs.pick [] rfl).dnil⟩
 have hk:=hk.lit 10 c4 rfl
 refine cnd_false hk rfl rfl <| wp_skip <| hK2 _ _ <| sq fun _ hK6=>sr fun _ hK7=>mv hk rfl fun a hk=>nx hK7 ?_
 obtain ⟨o11,h12,HL13⟩:=bind_some H
 clear H
 obtain ⟨R14,hR14⟩:=nm fun a w=>o11 = .out ()∧Kn [] 26 a∧Sat [] w0 w [(1,k0_),(2,k1_)] []
 refine wp_cutq R14 ?_ ?_
 ·refine wp_block ?_
  obtain ⟨fu16,h12⟩:=loopO_some h12
  obtain ⟨I15,hI15⟩:=nm fun fu a w=>∃ (u10:Int),loopN (fun s=>laws_eqStringS.s0 l0 l1 s) fu u10=some o11∧Kn [(0,(vL A0_ l0.length p0_)),(1,(vL A1_ l1.length p1_)),(5,(vI iS u10))] 26 a∧Sat [] w0 w [(1,k0_),(2,k1_)] []
  refine wp_loop_ghost I15 fu16 ?_ ?_
  ·rw [hI15]
   exact ⟨_,h12,(hk.al rfl),(hs.pick [] rfl)⟩
  clear h12 hk hs
  intro fu16 a w hI0
  rw [hI15] at hI0
  obtain ⟨u10,hi,hk,hs⟩:=hI0
  obtain ⟨x17,H,h18⟩:=loop_round hi
  try dsimp only at H
  unfold laws_eqStringS.s0 at H
  refine sq fun _ hK19=>sr fun _ hK20=>mv hk rfl fun a hk=>mv hk rfl fun a hk=>sle rfl hk rfl rfl rfl un25 fun a hk=>sv (.bool (decide (u10<(l0.length:Int)))) hk rfl rfl rfl fun a hk=>nx hK20 ?_
  rcases cond_some H with ⟨c21,H⟩ | ⟨c21,H⟩
  ·have hk:=hk.lit 14 c21 rfl
   refine cnd_true hk rfl rfl <| wp_skip <| hK19 _ _ <| sq fun _ hK22=>wp_block ?_
   refine sq fun _ hK23=>wp_region_tree (.q 0 (.q 1 (.q 2 (.q 3 (.q 4 (.alt 5 (.alt 6 (.alt 7 (.alt 8 .done .stop) .stop) .stop) .stop)))))) mo (by kernel_rfl) (hs.pick [] rfl) fun _=>?_
   have hs:=hs.drew
   refine tqm hk rfl fun a hk=>tqm hk rfl fun a hk=>?_
   obtain ⟨c25,H⟩:=ite_no H
   obtain ⟨b26,q27,hAc25⟩:=(v0_).some_ u10 c25.1 c25.2
   refine tqst _ hk rfl rfl rfl rfl (fun w hs=>si rfl hk rfl rfl rfl rfl un25 sz9 c25.1 c25.2 hAc25 fun a hk=>qe hk) fun a hk=>?_
   obtain ⟨_,rfl,e28⟩:=(v0_).at_ ByteArray.empty u10 c25.1 c25.2
   refine tqst _ hk rfl rfl rfl rfl (fun w hs=>sl (v:=(vS (l0.getD u10.toNat ByteArray.empty))) rfl hk rfl rfl rfl ag9 ((e28 0 _ rfl).cell (hs.hasD (k:=1) rfl)) fun a hk=>qe hk) fun a hk=>tqm hk rfl fun a hk=>tss hs hk rfl rfl fun _ hK_r24_5 w hs=>mv hk rfl fun a hk=>se (hs.pick [] rfl) hk (hK_r24_5 _ _ ?_)
   refine tss hs hk rfl rfl fun _ hK_r24_6 w hs=>?_
   obtain ⟨c29,H⟩:=ite_no H
   obtain ⟨b30,q31,hAc29⟩:=(v1_).some_ u10 c29.1 c29.2
   refine si rfl hk rfl rfl rfl rfl un25 sz9 c29.1 c29.2 hAc29 fun a hk=>se (hs.pick [] rfl) hk (hK_r24_6 _ _ ?_)
   refine tss hs hk rfl rfl fun _ hK_r24_7 w hs=>?_
   obtain ⟨_,rfl,e32⟩:=(v1_).at_ ByteArray.empty u10 c29.1 c29.2
   refine sl (v:=(vS (l1.getD u10.toNat ByteArray.empty))) rfl hk rfl rfl rfl ag9 ((e32 0 _ rfl).cell (hs.hasD (k:=2) rfl)) fun a hk=>se (hs.pick [] rfl) hk (hK_r24_7 _ _ ?_)
   refine tss hs hk rfl rfl fun _ hK_r24_8 w hs=>sv (.bool (!((l0.getD u10.toNat ByteArray.empty).toList==(l1.getD u10.toNat ByteArray.empty).toList))) hk rfl rfl rfl fun a hk=>se (hs.pick [] rfl) hk (hK_r24_8 _ _ ?_)
   refine wtl_nil fun w hF _=>?_
   have hs:=hs.f hF
   refine hK23 _ _ ?_
   rcases cond_some H with ⟨c33,H⟩ | ⟨c33,H⟩
   ·have hk:=hk.lit 25 c33 rfl
    refine cnd_true hk rfl rfl <| sr fun _ hK34=>mv hk rfl fun a hk=>nx hK34 ?_
    have hs:=hs.pick [] rfl
    refine wp_ret ?_
    obtain rfl:=osi H
    have ho11:=h18
    try dsimp only at ho11
    subst ho11
    have H:=HL13
    try dsimp only at H
    obtain rfl:=osi H
    exact fin hk _ [(.bool false)] rfl ⟨rfl,trivial⟩ ⟨rfl,(hs.pick [] rfl).dnil⟩
   have hk:=hk.lit 25 c33 rfl
   refine cnd_false hk rfl rfl <| wp_skip <| hK22 _ _ ?_
   have hs:=hs.pick [] rfl
   apply wp_region_lit
   refine mv hk rfl fun a hk=>sv (vI iS (w64 (u10+1))) hk rfl rfl rfl fun a hk=>mv hk rfl fun a hk=>?_
   show wpList _ _ _ [] _ _
   refine wpList_nil ?_
   obtain rfl:=osi H
   obtain ⟨m35,hmm35,h18⟩:=h18
   show ∃ n',n'<_∧I15 n' _ _
   refine ⟨m35,hmm35,?_⟩
   rw [hI15]
   exact ⟨_,h18,(hk.al rfl),(hs.pick [] rfl)⟩
  have hk:=hk.lit 14 c21 rfl
  refine cnd_false hk rfl rfl <| wp_exit ?_
  obtain rfl:=osi H
  show R14 _ _
  rw [hR14]
  exact ⟨h18.symm,hk.k,(hs.pick [] rfl)⟩
 intro a w hR0
 rw [hR14] at hR0
 obtain ⟨rfl,hk,hs⟩:=hR0
 have H:=HL13
 try dsimp only at H
 refine hK6 _ _ <| sr fun _ hK36=>mv hk rfl fun a hk=>nx hK36 <| wp_ret ?_
 obtain rfl:=osi H
 exact fin hk _ [(.bool true)] rfl ⟨rfl,trivial⟩ ⟨rfl,(hs.pick [] rfl).dnil⟩
noncomputable def laws_eqIo.f (x0:S_Io) (x1:S_Io):Option (Bool) :=
  (bif (x0.At != x1.At) then (some false) else (bif (!(x0.Data.toList==x1.Data.toList)) then (some false) else (some true)))
theorem laws_eqIo_t (w0:World) (x0:S_Io) (x1:S_Io) (r:Bool) (H:laws_eqIo.f x0 x1=some r) :
    Calls Tryz.prog 69 #[.agg #[vI iS x0.At,vS x0.Data],.agg #[vI iS x1.At,vS x1.Data]] w0 (Ret (fun v w=>v = .bool r∧Sat [] w0 w [] [])):=by
 have hs:=sat0 w0 [] (by simp)
 unfold laws_eqIo.f at H
 refine enter Tryz.func69 rfl Tryz.ntmps69 rfl fun a hk=>sr fun _ hK1=>sbx 1 hs rfl hk rfl rfl rfl rfl fun b2 w a hk hs=>sbx 2 hs rfl hk rfl rfl rfl rfl fun b3 w a hk hs=>mv hk rfl fun a hk=>nx hK1 <| sq fun _ hK4=>sr fun _ hK5=>sf ⟨b2,0,none⟩ rfl hk rfl rfl rfl fd84_0 rfl fun a hk=>sl rfl hk rfl rfl rfl ag3 (box_cell hs (k:=1) rfl rfl) fun a hk=>sf ⟨b3,0,none⟩ rfl hk rfl rfl rfl fd84_0 rfl fun a hk=>sl rfl hk rfl rfl rfl ag3 (box_cell hs (k:=2) rfl rfl) fun a hk=>sv (.bool (x0.At != x1.At)) hk rfl rfl rfl fun a hk=>nx hK5 ?_
 rcases cond_some H with ⟨c6,H⟩ | ⟨c6,H⟩
 ·have hk:=hk.lit 9 c6 rfl
  refine cnd_true hk rfl rfl <| sr fun _ hK7=>mv hk rfl fun a hk=>nx hK7 <| wp_ret ?_
  obtain rfl:=osi H
  exact fin hk _ [(.bool false)] rfl ⟨rfl,trivial⟩ ⟨rfl,(hs.pick [] rfl).dnil⟩
 have hk:=hk.lit 9 c6 rfl
 refine cnd_false hk rfl rfl <| wp_skip <| hK4 _ _ <| sq fun _ hK8=>sr fun _ hK9=>sf ⟨b2,1,none⟩ rfl hk rfl rfl rfl fd84_1 rfl fun a hk=>sl rfl hk rfl rfl rfl ag9 (box_cell hs (k:=1) rfl rfl) fun a hk=>sf ⟨b3,1,none⟩ rfl hk rfl rfl rfl fd84_1 rfl fun a hk=>sl rfl hk rfl rfl rfl ag9 (box_cell hs (k:=2) rfl rfl) fun a hk=>sv (.bool (!(x0.Data.toList==x1.Data.toList))) hk rfl rfl rfl fun a hk=>nx hK9 ?_
 rcases cond_some H with ⟨c10,H⟩ | ⟨c10,H⟩
 ·have hk:=hk.lit 14 c10 rfl
  refine cnd_true hk rfl rfl <| sr fun _ hK11=>mv hk rfl fun a hk=>nx hK11 <| wp_ret ?_
  obtain rfl:=osi H
  exact fin hk _ [(.bool false)] rfl ⟨rfl,trivial⟩ ⟨rfl,(hs.pick [] rfl).dnil⟩
 have hk:=hk.lit 14 c10 rfl
 refine cnd_false hk rfl rfl <| wp_skip <| hK8 _ _ <| sr fun _ hK12=>mv hk rfl fun a hk=>nx hK12 ?_
 refine wp_ret ?_
 obtain rfl:=osi H
 exact fin hk _ [(.bool true)] rfl ⟨rfl,trivial⟩ ⟨rfl,(hs.pick [] rfl).dnil⟩
noncomputable def laws_eqIoS.s0 (l0:List S_Io) (l1:List S_Io) (u10:Int):Option ((Int) ⊕ Ex (Unit) (Bool)) :=
  (bif (decide (u10<(l0.length:Int))) then (if 0≤u10∧u10<(l0.length:Int) then (if 0≤u10∧u10<(l1.length:Int) then ((laws_eqIo.f (l0.getD u10.toNat z_Io) (l1.getD u10.toNat z_Io)).bind fun y33=>(bif (!y33) then (some (.inr (.ret false))) else (some (.inl (w64 (u10+1)))))) else none) else none) else (some (.inr (.out ()))))
noncomputable def laws_eqIoS.f (l0:List S_Io) (l1:List S_Io):Option (Bool) :=
  (bif ((l0.length:Int) != (l1.length:Int)) then (some false) else ((loopO (fun s=>laws_eqIoS.s0 l0 l1 s) 0).bind fun o=>match o with | .out _=>(some true) | .ret r=>(some r)))
theorem laws_eqIoS_t (w0:World) (A0_:Option Addr) (p0_:Nat) (l0:List S_Io) (k0_:Chunk) (v0_:View L_Io A0_ p0_ l0 k0_) (w0_:Has w0 k0_) (A1_:Option Addr) (p1_:Nat) (l1:List S_Io) (k1_:Chunk) (v1_:View L_Io A1_ p1_ l1 k1_) (w1_:Has w0 k1_) (r:Bool) (H:laws_eqIoS.f l0 l1=some r) :
    Calls Tryz.prog 41 #[vL A0_ l0.length p0_,vL A1_ l1.length p1_] w0 (Ret (fun v w=>v = .bool r∧Sat [] w0 w [] [])):=by
 have hs:=sat0 w0 [(1,k0_),(2,k1_)] (by simp only [List.mem_cons,List.not_mem_nil,or_false];rintro x (rfl | rfl) <;> assumption)
 unfold laws_eqIoS.f at H
 refine enter Tryz.func41 rfl Tryz.ntmps41 rfl fun a hk=>sr fun _ hK1=>mv hk rfl fun a hk=>nx hK1 <| sq fun _ hK2=>sr fun _ hK3=>mv hk rfl fun a hk=>sle rfl hk rfl rfl rfl un26 fun a hk=>mv hk rfl fun a hk=>sle rfl hk rfl rfl rfl un26 fun a hk=>sv (.bool ((l0.length:Int) != (l1.length:Int))) hk rfl rfl rfl fun a hk=>nx hK3 ?_
 rcases cond_some H with ⟨c4,H⟩ | ⟨c4,H⟩
 ·have hk:=hk.lit 10 c4 rfl
  refine cnd_true hk rfl rfl <| sr fun _ hK5=>mv hk rfl fun a hk=>nx hK5 <| wp_ret ?_
  obtain rfl:=osi H
  exact fin hk _ [(.bool false)] rfl ⟨rfl,trivial⟩ ⟨rfl,(hs.pick [] rfl).dnil⟩
 have hk:=hk.lit 10 c4 rfl
 refine cnd_false hk rfl rfl <| wp_skip <| hK2 _ _ <| sq fun _ hK6=>sr fun _ hK7=>mv hk rfl fun a hk=>nx hK7 ?_
 obtain ⟨o11,h12,HL13⟩:=bind_some H
 clear H
 obtain ⟨R14,hR14⟩:=nm fun a w=>o11 = .out ()∧Kn [] 27 a∧Sat [] w0 w [(1,k0_),(2,k1_)] []
 refine wp_cutq R14 ?_ ?_
 ·refine wp_block ?_
  obtain ⟨fu16,h12⟩:=loopO_some h12
  obtain ⟨I15,hI15⟩:=nm fun fu a w=>∃ (u10:Int),loopN (fun s=>laws_eqIoS.s0 l0 l1 s) fu u10=some o11∧Kn [(0,(vL A0_ l0.length p0_)),(1,(vL A1_ l1.length p1_)),(5,(vI iS u10))] 27 a∧Sat [] w0 w [(1,k0_),(2,k1_)] []
  refine wp_loop_ghost I15 fu16 ?_ ?_
  ·rw [hI15]
   exact ⟨_,h12,(hk.al rfl),(hs.pick [] rfl)⟩
  clear h12 hk hs
  intro fu16 a w hI0
  rw [hI15] at hI0
  obtain ⟨u10,hi,hk,hs⟩:=hI0
  obtain ⟨x17,H,h18⟩:=loop_round hi
  try dsimp only at H
  unfold laws_eqIoS.s0 at H
  refine sq fun _ hK19=>sr fun _ hK20=>mv hk rfl fun a hk=>mv hk rfl fun a hk=>sle rfl hk rfl rfl rfl un26 fun a hk=>sv (.bool (decide (u10<(l0.length:Int)))) hk rfl rfl rfl fun a hk=>nx hK20 ?_
  rcases cond_some H with ⟨c21,H⟩ | ⟨c21,H⟩
  ·have hk:=hk.lit 14 c21 rfl
   refine cnd_true hk rfl rfl <| wp_skip <| hK19 _ _ <| sq fun _ hK22=>wp_block ?_
   refine sq fun _ hK23=>wp_region_tree (.q 0 (.q 1 (.q 2 (.q 3 (.q 4 (.alt 5 (.alt 6 (.alt 7 (.alt 8 (.alt 9 .done .stop) .stop) .stop) .stop) .stop)))))) mo (by kernel_rfl) (hs.pick [] rfl) fun _=>?_
   have hs:=hs.drew
   refine tqm hk rfl fun a hk=>tqm hk rfl fun a hk=>?_
   obtain ⟨c25,H⟩:=ite_no H
   obtain ⟨b26,q27,hAc25⟩:=(v0_).some_ u10 c25.1 c25.2
   refine tqst _ hk rfl rfl rfl rfl (fun w hs=>si rfl hk rfl rfl rfl rfl un26 sz84 c25.1 c25.2 hAc25 fun a hk=>qe hk) fun a hk=>?_
   obtain ⟨_,rfl,e28⟩:=(v0_).at_ z_Io u10 c25.1 c25.2
   refine tqst _ hk rfl rfl rfl rfl (fun w hs=>sln [vI iS ((l0.getD u10.toNat z_Io).At),vS ((l0.getD u10.toNat z_Io).Data)] rfl hk rfl rfl rfl ag84 sz84 (cells_at e28 (hs.hasD (k:=1) rfl)) fun a hk=>qe hk) fun a hk=>tqm hk rfl fun a hk=>tss hs hk rfl rfl fun _ hK_r24_5 w hs=>mv hk rfl fun a hk=>se (hs.pick [] rfl) hk (hK_r24_5 _ _ ?_)
   refine tss hs hk rfl rfl fun _ hK_r24_6 w hs=>?_
   obtain ⟨c29,H⟩:=ite_no H
   obtain ⟨b30,q31,hAc29⟩:=(v1_).some_ u10 c29.1 c29.2
   refine si rfl hk rfl rfl rfl rfl un26 sz84 c29.1 c29.2 hAc29 fun a hk=>se (hs.pick [] rfl) hk (hK_r24_6 _ _ ?_)
   refine tss hs hk rfl rfl fun _ hK_r24_7 w hs=>?_
   obtain ⟨_,rfl,e32⟩:=(v1_).at_ z_Io u10 c29.1 c29.2
   refine sln [vI iS ((l1.getD u10.toNat z_Io).At),vS ((l1.getD u10.toNat z_Io).Data)] rfl hk rfl rfl rfl ag84 sz84 (cells_at e32 (hs.hasD (k:=2) rfl)) fun a hk=>se (hs.pick [] rfl) hk (hK_r24_7 _ _ ?_)
   refine tss hs hk rfl rfl fun _ hK_r24_8 w hs=>?_
   obtain ⟨y33,h34,H⟩:=bind_some H
   refine sc rfl en69 hk rfl rfl rfl (laws_eqIo_t _ (l0.getD u10.toNat z_Io) (l1.getD u10.toNat z_Io) _ h34) ?_
   rintro _ w ⟨rfl,hG⟩ a hk
   have hs:=hs.call0 hG
   refine se (hs.pick [] rfl) hk (hK_r24_8 _ _ ?_)
   refine tss hs hk rfl rfl fun _ hK_r24_9 w hs=>sv (.bool (!y33)) hk rfl rfl rfl fun a hk=>se (hs.pick [] rfl) hk (hK_r24_9 _ _ ?_)
   refine wtl_nil fun w hF _=>?_
   have hs:=hs.f hF
   refine hK23 _ _ ?_
   rcases cond_some H with ⟨c35,H⟩ | ⟨c35,H⟩
   ·have hk:=hk.lit 26 c35 rfl
    refine cnd_true hk rfl rfl <| sr fun _ hK36=>mv hk rfl fun a hk=>nx hK36 ?_
    have hs:=hs.pick [] rfl
    refine wp_ret ?_
    obtain rfl:=osi H
    have ho11:=h18
    try dsimp only at ho11
    subst ho11
    have H:=HL13
    try dsimp only at H
    obtain rfl:=osi H
    exact fin hk _ [(.bool false)] rfl ⟨rfl,trivial⟩ ⟨rfl,(hs.pick [] rfl).dnil⟩
   have hk:=hk.lit 26 c35 rfl
   refine cnd_false hk rfl rfl <| wp_skip <| hK22 _ _ ?_
   have hs:=hs.pick [] rfl
   apply wp_region_lit
   refine mv hk rfl fun a hk=>sv (vI iS (w64 (u10+1))) hk rfl rfl rfl fun a hk=>mv hk rfl fun a hk=>?_
   show wpList _ _ _ [] _ _
   refine wpList_nil ?_
   obtain rfl:=osi H
   obtain ⟨m37,hmm37,h18⟩:=h18
   show ∃ n',n'<_∧I15 n' _ _
   refine ⟨m37,hmm37,?_⟩
   rw [hI15]
   exact ⟨_,h18,(hk.al rfl),(hs.pick [] rfl)⟩
  have hk:=hk.lit 14 c21 rfl
  refine cnd_false hk rfl rfl <| wp_exit ?_
  obtain rfl:=osi H
  show R14 _ _
  rw [hR14]
  exact ⟨h18.symm,hk.k,(hs.pick [] rfl)⟩
 intro a w hR0
 rw [hR14] at hR0
 obtain ⟨rfl,hk,hs⟩:=hR0
 have H:=HL13
 try dsimp only at H
 refine hK6 _ _ <| sr fun _ hK38=>mv hk rfl fun a hk=>nx hK38 <| wp_ret ?_
 obtain rfl:=osi H
 exact fin hk _ [(.bool true)] rfl ⟨rfl,trivial⟩ ⟨rfl,(hs.pick [] rfl).dnil⟩
noncomputable def laws_eqDevice.f (x0:S_Device) (x1:S_Device):Option (Bool) :=
  ((laws_eqStringS.f x0.Sure x1.Sure).bind fun y6=>(bif (!y6) then (some false) else ((laws_eqIoS.f x0.Unsure x1.Unsure).bind fun y12=>(bif (!y12) then (some false) else (some true)))))
theorem laws_eqDevice_t (w0:World) (x0:S_Device) (A0_0:Option Addr) (p0_0:Nat) (k0_0:Chunk) (v0_0:View Lay.str A0_0 p0_0 x0.Sure k0_0) (w0_0:Has w0 k0_0) (A0_1:Option Addr) (p0_1:Nat) (k0_1:Chunk) (v0_1:View L_Io A0_1 p0_1 x0.Unsure k0_1) (w0_1:Has w0 k0_1) (x1:S_Device) (A1_0:Option Addr) (p1_0:Nat) (k1_0:Chunk) (v1_0:View Lay.str A1_0 p1_0 x1.Sure k1_0) (w1_0:Has w0 k1_0) (A1_1:Option Addr) (p1_1:Nat) (k1_1:Chunk) (v1_1:View L_Io A1_1 p1_1 x1.Unsure k1_1) (w1_1:Has w0 k1_1) (r:Bool) (H:laws_eqDevice.f x0 x1=some r) :
    Calls Tryz.prog 21 #[.agg #[vL A0_0 x0.Sure.length p0_0,vL A0_1 x0.Unsure.length p0_1],.agg #[vL A1_0 x1.Sure.length p1_0,vL A1_1 x1.Unsure.length p1_1]] w0 (Ret (fun v w=>v = .bool r∧Sat [] w0 w [] [])):=by
 have hs:=sat0 w0 [(1,k0_0),(2,k0_1),(3,k1_0),(4,k1_1)] (by simp only [List.mem_cons,List.not_mem_nil,or_false];rintro x (rfl | rfl | rfl | rfl) <;> assumption)
 unfold laws_eqDevice.f at H
 refine enter Tryz.func21 rfl Tryz.ntmps21 rfl fun a hk=>sr fun _ hK1=>sbx 5 hs rfl hk rfl rfl rfl rfl fun b2 w a hk hs=>sbx 6 hs rfl hk rfl rfl rfl rfl fun b3 w a hk hs=>mv hk rfl fun a hk=>nx hK1 <| sq fun _ hK4=>sr fun _ hK5=>sf ⟨b2,0,none⟩ rfl hk rfl rfl rfl fd28_0 rfl fun a hk=>sl rfl hk rfl rfl rfl ag25 (box_cell hs (k:=5) rfl rfl) fun a hk=>sf ⟨b3,0,none⟩ rfl hk rfl rfl rfl fd28_0 rfl fun a hk=>sl rfl hk rfl rfl rfl ag25 (box_cell hs (k:=6) rfl rfl) fun a hk=>?_
 obtain ⟨y6,h7,H⟩:=bind_some H
 refine sc rfl en40 hk rfl rfl rfl (laws_eqStringS_t _ A0_0 p0_0 x0.Sure _ v0_0 (hs.hasD (k:=1) rfl) A1_0 p1_0 x1.Sure _ v1_0 (hs.hasD (k:=3) rfl) _ h7) ?_
 rintro _ w ⟨rfl,hG⟩ a hk
 have hs:=hs.call0 hG
 refine sv (.bool (!y6)) hk rfl rfl rfl fun a hk=>nx hK5 ?_
 rcases cond_some H with ⟨c8,H⟩ | ⟨c8,H⟩
 ·have hk:=hk.lit 10 c8 rfl
  refine cnd_true hk rfl rfl <| sr fun _ hK9=>mv hk rfl fun a hk=>nx hK9 <| wp_ret ?_
  obtain rfl:=osi H
  exact fin hk _ [(.bool false)] rfl ⟨rfl,trivial⟩ ⟨rfl,(hs.pick [] rfl).dnil⟩
 have hk:=hk.lit 10 c8 rfl
 refine cnd_false hk rfl rfl <| wp_skip <| hK4 _ _ <| sq fun _ hK10=>sr fun _ hK11=>sf ⟨b2,1,none⟩ rfl hk rfl rfl rfl fd28_1 rfl fun a hk=>sl rfl hk rfl rfl rfl ag26 (box_cell hs (k:=5) rfl rfl) fun a hk=>sf ⟨b3,1,none⟩ rfl hk rfl rfl rfl fd28_1 rfl fun a hk=>sl rfl hk rfl rfl rfl ag26 (box_cell hs (k:=6) rfl rfl) fun a hk=>?_
 obtain ⟨y12,h13,H⟩:=bind_some H
 refine sc rfl en41 hk rfl rfl rfl (laws_eqIoS_t _ A0_1 p0_1 x0.Unsure _ v0_1 (hs.hasD (k:=2) rfl) A1_1 p1_1 x1.Unsure _ v1_1 (hs.hasD (k:=4) rfl) _ h13) ?_
 rintro _ w ⟨rfl,hG⟩ a hk
 have hs:=hs.call0 hG
 refine sv (.bool (!y12)) hk rfl rfl rfl fun a hk=>nx hK11 ?_
 rcases cond_some H with ⟨c14,H⟩ | ⟨c14,H⟩
 ·have hk:=hk.lit 16 c14 rfl
  refine cnd_true hk rfl rfl <| sr fun _ hK15=>mv hk rfl fun a hk=>nx hK15 <| wp_ret ?_
  obtain rfl:=osi H
  exact fin hk _ [(.bool false)] rfl ⟨rfl,trivial⟩ ⟨rfl,(hs.pick [] rfl).dnil⟩
 have hk:=hk.lit 16 c14 rfl
 refine cnd_false hk rfl rfl <| wp_skip <| hK10 _ _ <| sr fun _ hK16=>mv hk rfl fun a hk=>nx hK16 ?_
 refine wp_ret ?_
 obtain rfl:=osi H
 exact fin hk _ [(.bool true)] rfl ⟨rfl,trivial⟩ ⟨rfl,(hs.pick [] rfl).dnil⟩
noncomputable def laws_eqStore.f (x0:S_Store) (x1:S_Store):Option (Bool) :=
  (bif (!(x0.Key.toList==x1.Key.toList)) then (some false) else ((laws_eqRegister.f x0.Reg x1.Reg).bind fun y10=>(bif (!y10) then (some false) else ((laws_eqDevice.f x0.Device x1.Device).bind fun y16=>(bif (!y16) then (some false) else (bif (!(x0.Up==x1.Up)) then (some false) else (bif (!(x0.Dead==x1.Dead)) then (some false) else (some true))))))))
theorem laws_eqStore_t (w0:World) (x0:S_Store) (A0_0:Option Addr) (p0_0:Nat) (k0_0:Chunk) (v0_0:View Lay.str A0_0 p0_0 x0.Device.Sure k0_0) (w0_0:Has w0 k0_0) (A0_1:Option Addr) (p0_1:Nat) (k0_1:Chunk) (v0_1:View L_Io A0_1 p0_1 x0.Device.Unsure k0_1) (w0_1:Has w0 k0_1) (x1:S_Store) (A1_0:Option Addr) (p1_0:Nat) (k1_0:Chunk) (v1_0:View Lay.str A1_0 p1_0 x1.Device.Sure k1_0) (w1_0:Has w0 k1_0) (A1_1:Option Addr) (p1_1:Nat) (k1_1:Chunk) (v1_1:View L_Io A1_1 p1_1 x1.Device.Unsure k1_1) (w1_1:Has w0 k1_1) (r:Bool) (H:laws_eqStore.f x0 x1=some r) :
    Calls Tryz.prog 7 #[.agg #[vS x0.Key,vI iS x0.Reg.Epoch,vI iS x0.Reg.Side,vI iS x0.Reg.Count,vI iS x0.Reg.Boot,vS x0.Reg.Base,vS x0.Reg.Tip,vS x0.Reg.Root,vL A0_0 x0.Device.Sure.length p0_0,vL A0_1 x0.Device.Unsure.length p0_1,.bool x0.Up,.bool x0.Dead],.agg #[vS x1.Key,vI iS x1.Reg.Epoch,vI iS x1.Reg.Side,vI iS x1.Reg.Count,vI iS x1.Reg.Boot,vS x1.Reg.Base,vS x1.Reg.Tip,vS x1.Reg.Root,vL A1_0 x1.Device.Sure.length p1_0,vL A1_1 x1.Device.Unsure.length p1_1,.bool x1.Up,.bool x1.Dead]] w0 (Ret (fun v w=>v = .bool r∧Sat [] w0 w [] [])):=by
 have hs:=sat0 w0 [(1,k0_0),(2,k0_1),(3,k1_0),(4,k1_1)] (by simp only [List.mem_cons,List.not_mem_nil,or_false];rintro x (rfl | rfl | rfl | rfl) <;> assumption)
 unfold laws_eqStore.f at H
 refine enter Tryz.func7 rfl Tryz.ntmps7 rfl fun a hk=>sr fun _ hK1=>sbx 5 hs rfl hk rfl rfl rfl rfl fun b2 w a hk hs=>sbx 6 hs rfl hk rfl rfl rfl rfl fun b3 w a hk hs=>mv hk rfl fun a hk=>nx hK1 <| sq fun _ hK4=>sr fun _ hK5=>sf ⟨b2,0,none⟩ rfl hk rfl rfl rfl fd30_0 rfl fun a hk=>sl rfl hk rfl rfl rfl ag9 (box_cell hs (k:=5) rfl rfl) fun a hk=>sf ⟨b3,0,none⟩ rfl hk rfl rfl rfl fd30_0 rfl fun a hk=>sl rfl hk rfl rfl rfl ag9 (box_cell hs (k:=6) rfl rfl) fun a hk=>sv (.bool (!(x0.Key.toList==x1.Key.toList))) hk rfl rfl rfl fun a hk=>nx hK5 ?_
 rcases cond_some H with ⟨c6,H⟩ | ⟨c6,H⟩
 ·have hk:=hk.lit 9 c6 rfl
  refine cnd_true hk rfl rfl <| sr fun _ hK7=>mv hk rfl fun a hk=>nx hK7 <| wp_ret ?_
  obtain rfl:=osi H
  exact fin hk _ [(.bool false)] rfl ⟨rfl,trivial⟩ ⟨rfl,(hs.pick [] rfl).dnil⟩
 have hk:=hk.lit 9 c6 rfl
 refine cnd_false hk rfl rfl <| wp_skip <| hK4 _ _ <| sq fun _ hK8=>sr fun _ hK9=>sf ⟨b2,1,none⟩ rfl hk rfl rfl rfl fd30_1 rfl fun a hk=>sln [vI iS x0.Reg.Epoch,vI iS x0.Reg.Side,vI iS x0.Reg.Count,vI iS x0.Reg.Boot,vS x0.Reg.Base,vS x0.Reg.Tip,vS x0.Reg.Root] rfl hk rfl rfl rfl ag24 sz24 (box_part hs (k:=5) rfl rfl) fun a hk=>sf ⟨b3,1,none⟩ rfl hk rfl rfl rfl fd30_1 rfl fun a hk=>sln [vI iS x1.Reg.Epoch,vI iS x1.Reg.Side,vI iS x1.Reg.Count,vI iS x1.Reg.Boot,vS x1.Reg.Base,vS x1.Reg.Tip,vS x1.Reg.Root] rfl hk rfl rfl rfl ag24 sz24 (box_part hs (k:=6) rfl rfl) fun a hk=>?_
 obtain ⟨y10,h11,H⟩:=bind_some H
 refine sc rfl en20 hk rfl rfl rfl (laws_eqRegister_t _ x0.Reg x1.Reg _ h11) ?_
 rintro _ w ⟨rfl,hG⟩ a hk
 have hs:=hs.call0 hG
 refine sv (.bool (!y10)) hk rfl rfl rfl fun a hk=>nx hK9 ?_
 rcases cond_some H with ⟨c12,H⟩ | ⟨c12,H⟩
 ·have hk:=hk.lit 15 c12 rfl
  refine cnd_true hk rfl rfl <| sr fun _ hK13=>mv hk rfl fun a hk=>nx hK13 <| wp_ret ?_
  obtain rfl:=osi H
  exact fin hk _ [(.bool false)] rfl ⟨rfl,trivial⟩ ⟨rfl,(hs.pick [] rfl).dnil⟩
 have hk:=hk.lit 15 c12 rfl
 refine cnd_false hk rfl rfl <| wp_skip <| hK8 _ _ <| sq fun _ hK14=>sr fun _ hK15=>sf ⟨b2,8,none⟩ rfl hk rfl rfl rfl fd30_2 rfl fun a hk=>sln [vL A0_0 x0.Device.Sure.length p0_0,vL A0_1 x0.Device.Unsure.length p0_1] rfl hk rfl rfl rfl ag28 sz28 (box_part hs (k:=5) rfl rfl) fun a hk=>sf ⟨b3,8,none⟩ rfl hk rfl rfl rfl fd30_2 rfl fun a hk=>sln [vL A1_0 x1.Device.Sure.length p1_0,vL A1_1 x1.Device.Unsure.length p1_1] rfl hk rfl rfl rfl ag28 sz28 (box_part hs (k:=6) rfl rfl) fun a hk=>?_
 obtain ⟨y16,h17,H⟩:=bind_some H
 refine sc rfl en21 hk rfl rfl rfl (laws_eqDevice_t _ x0.Device A0_0 p0_0 _ v0_0 (hs.hasD (k:=1) rfl) A0_1 p0_1 _ v0_1 (hs.hasD (k:=2) rfl) x1.Device A1_0 p1_0 _ v1_0 (hs.hasD (k:=3) rfl) A1_1 p1_1 _ v1_1 (hs.hasD (k:=4) rfl) _ h17) ?_
 rintro _ w ⟨rfl,hG⟩ a hk
 have hs:=hs.call0 hG
 refine sv (.bool (!y16)) hk rfl rfl rfl fun a hk=>nx hK15 ?_
 rcases cond_some H with ⟨c18,H⟩ | ⟨c18,H⟩
 ·have hk:=hk.lit 21 c18 rfl
  refine cnd_true hk rfl rfl <| sr fun _ hK19=>mv hk rfl fun a hk=>nx hK19 <| wp_ret ?_
  obtain rfl:=osi H
  exact fin hk _ [(.bool false)] rfl ⟨rfl,trivial⟩ ⟨rfl,(hs.pick [] rfl).dnil⟩
 have hk:=hk.lit 21 c18 rfl
 refine cnd_false hk rfl rfl <| wp_skip <| hK14 _ _ <| sq fun _ hK20=>sr fun _ hK21=>sf ⟨b2,10,none⟩ rfl hk rfl rfl rfl fd30_3 rfl fun a hk=>sl rfl hk rfl rfl rfl ag4 (box_cell hs (k:=5) rfl rfl) fun a hk=>sf ⟨b3,10,none⟩ rfl hk rfl rfl rfl fd30_3 rfl fun a hk=>sl rfl hk rfl rfl rfl ag4 (box_cell hs (k:=6) rfl rfl) fun a hk=>sbn rfl hk rfl rfl rfl rfl un4 fun a hk=>nx hK21 ?_
 have hs:=hs.pick [(5,5),(6,6)] rfl
 rcases cond_some H with ⟨c22,H⟩ | ⟨c22,H⟩
 ·have hk:=hk.lit 26 c22 rfl
  refine cnd_true hk rfl rfl <| sr fun _ hK23=>mv hk rfl fun a hk=>nx hK23 <| wp_ret ?_
  obtain rfl:=osi H
  exact fin hk _ [(.bool false)] rfl ⟨rfl,trivial⟩ ⟨rfl,(hs.pick [] rfl).dnil⟩
 have hk:=hk.lit 26 c22 rfl
 refine cnd_false hk rfl rfl <| wp_skip <| hK20 _ _ <| sq fun _ hK24=>sr fun _ hK25=>sf ⟨b2,11,none⟩ rfl hk rfl rfl rfl fd30_4 rfl fun a hk=>sl rfl hk rfl rfl rfl ag4 (box_cell hs (k:=5) rfl rfl) fun a hk=>sf ⟨b3,11,none⟩ rfl hk rfl rfl rfl fd30_4 rfl fun a hk=>sl rfl hk rfl rfl rfl ag4 (box_cell hs (k:=6) rfl rfl) fun a hk=>sbn rfl hk rfl rfl rfl rfl un4 fun a hk=>nx hK25 ?_
 rcases cond_some H with ⟨c26,H⟩ | ⟨c26,H⟩
 ·have hk:=hk.lit 31 c26 rfl
  refine cnd_true hk rfl rfl <| sr fun _ hK27=>mv hk rfl fun a hk=>nx hK27 <| wp_ret ?_
  obtain rfl:=osi H
  exact fin hk _ [(.bool false)] rfl ⟨rfl,trivial⟩ ⟨rfl,(hs.pick [] rfl).dnil⟩
 have hk:=hk.lit 31 c26 rfl
 refine cnd_false hk rfl rfl <| wp_skip <| hK24 _ _ <| sr fun _ hK28=>mv hk rfl fun a hk=>nx hK28 ?_
 refine wp_ret ?_
 obtain rfl:=osi H
 exact fin hk _ [(.bool true)] rfl ⟨rfl,trivial⟩ ⟨rfl,(hs.pick [] rfl).dnil⟩
noncomputable def laws_eqIntS.s0 (l0:List Int) (l1:List Int) (u10:Int):Option ((Int) ⊕ Ex (Unit) (Bool)) :=
  (bif (decide (u10<(l0.length:Int))) then (if 0≤u10∧u10<(l0.length:Int) then (if 0≤u10∧u10<(l1.length:Int) then (bif ((l0.getD u10.toNat 0) != (l1.getD u10.toNat 0)) then (some (.inr (.ret false))) else (some (.inl (w64 (u10+1))))) else none) else none) else (some (.inr (.out ()))))
noncomputable def laws_eqIntS.f (l0:List Int) (l1:List Int):Option (Bool) :=
  (bif ((l0.length:Int) != (l1.length:Int)) then (some false) else ((loopO (fun s=>laws_eqIntS.s0 l0 l1 s) 0).bind fun o=>match o with | .out _=>(some true) | .ret r=>(some r)))
theorem laws_eqIntS_t (w0:World) (A0_:Option Addr) (p0_:Nat) (l0:List Int) (k0_:Chunk) (v0_:View (Lay.int iS) A0_ p0_ l0 k0_) (w0_:Has w0 k0_) (A1_:Option Addr) (p1_:Nat) (l1:List Int) (k1_:Chunk) (v1_:View (Lay.int iS) A1_ p1_ l1 k1_) (w1_:Has w0 k1_) (r:Bool) (H:laws_eqIntS.f l0 l1=some r) :
    Calls Tryz.prog 8 #[vL A0_ l0.length p0_,vL A1_ l1.length p1_] w0 (Ret (fun v w=>v = .bool r∧Sat [] w0 w [] [])):=by
 have hs:=sat0 w0 [(1,k0_),(2,k1_)] (by simp only [List.mem_cons,List.not_mem_nil,or_false];rintro x (rfl | rfl) <;> assumption)
 unfold laws_eqIntS.f at H
 refine enter Tryz.func8 rfl Tryz.ntmps8 rfl fun a hk=>sr fun _ hK1=>mv hk rfl fun a hk=>nx hK1 <| sq fun _ hK2=>sr fun _ hK3=>mv hk rfl fun a hk=>sle rfl hk rfl rfl rfl un22 fun a hk=>mv hk rfl fun a hk=>sle rfl hk rfl rfl rfl un22 fun a hk=>sv (.bool ((l0.length:Int) != (l1.length:Int))) hk rfl rfl rfl fun a hk=>nx hK3 ?_
 rcases cond_some H with ⟨c4,H⟩ | ⟨c4,H⟩
 ·have hk:=hk.lit 10 c4 rfl
  refine cnd_true hk rfl rfl <| sr fun _ hK5=>mv hk rfl fun a hk=>nx hK5 <| wp_ret ?_
  obtain rfl:=osi H
  exact fin hk _ [(.bool false)] rfl ⟨rfl,trivial⟩ ⟨rfl,(hs.pick [] rfl).dnil⟩
 have hk:=hk.lit 10 c4 rfl
 refine cnd_false hk rfl rfl <| wp_skip <| hK2 _ _ <| sq fun _ hK6=>sr fun _ hK7=>mv hk rfl fun a hk=>nx hK7 ?_
 obtain ⟨o11,h12,HL13⟩:=bind_some H
 clear H
 obtain ⟨R14,hR14⟩:=nm fun a w=>o11 = .out ()∧Kn [] 26 a∧Sat [] w0 w [(1,k0_),(2,k1_)] []
 refine wp_cutq R14 ?_ ?_
 ·refine wp_block ?_
  obtain ⟨fu16,h12⟩:=loopO_some h12
  obtain ⟨I15,hI15⟩:=nm fun fu a w=>∃ (u10:Int),loopN (fun s=>laws_eqIntS.s0 l0 l1 s) fu u10=some o11∧Kn [(0,(vL A0_ l0.length p0_)),(1,(vL A1_ l1.length p1_)),(5,(vI iS u10))] 26 a∧Sat [] w0 w [(1,k0_),(2,k1_)] []
  refine wp_loop_ghost I15 fu16 ?_ ?_
  ·rw [hI15]
   exact ⟨_,h12,(hk.al rfl),(hs.pick [] rfl)⟩
  clear h12 hk hs
  intro fu16 a w hI0
  rw [hI15] at hI0
  obtain ⟨u10,hi,hk,hs⟩:=hI0
  obtain ⟨x17,H,h18⟩:=loop_round hi
  try dsimp only at H
  unfold laws_eqIntS.s0 at H
  refine sq fun _ hK19=>sr fun _ hK20=>mv hk rfl fun a hk=>mv hk rfl fun a hk=>sle rfl hk rfl rfl rfl un22 fun a hk=>sv (.bool (decide (u10<(l0.length:Int)))) hk rfl rfl rfl fun a hk=>nx hK20 ?_
  rcases cond_some H with ⟨c21,H⟩ | ⟨c21,H⟩
  ·have hk:=hk.lit 14 c21 rfl
   refine cnd_true hk rfl rfl <| wp_skip <| hK19 _ _ <| sq fun _ hK22=>wp_block ?_
   refine sq fun _ hK23=>wp_region_tree (.q 0 (.q 1 (.q 2 (.q 3 (.q 4 (.alt 5 (.alt 6 (.alt 7 (.alt 8 .done .stop) .stop) .stop) .stop)))))) mo (by kernel_rfl) (hs.pick [] rfl) fun _=>?_
   have hs:=hs.drew
   refine tqm hk rfl fun a hk=>tqm hk rfl fun a hk=>?_
   obtain ⟨c25,H⟩:=ite_no H
   obtain ⟨b26,q27,hAc25⟩:=(v0_).some_ u10 c25.1 c25.2
   refine tqst _ hk rfl rfl rfl rfl (fun w hs=>si rfl hk rfl rfl rfl rfl un22 sz3 c25.1 c25.2 hAc25 fun a hk=>qe hk) fun a hk=>?_
   obtain ⟨_,rfl,e28⟩:=(v0_).at_ 0 u10 c25.1 c25.2
   refine tqst _ hk rfl rfl rfl rfl (fun w hs=>sl (v:=(vI iS (l0.getD u10.toNat 0))) rfl hk rfl rfl rfl ag3 ((e28 0 _ rfl).cell (hs.hasD (k:=1) rfl)) fun a hk=>qe hk) fun a hk=>tqm hk rfl fun a hk=>tss hs hk rfl rfl fun _ hK_r24_5 w hs=>mv hk rfl fun a hk=>se (hs.pick [] rfl) hk (hK_r24_5 _ _ ?_)
   refine tss hs hk rfl rfl fun _ hK_r24_6 w hs=>?_
   obtain ⟨c29,H⟩:=ite_no H
   obtain ⟨b30,q31,hAc29⟩:=(v1_).some_ u10 c29.1 c29.2
   refine si rfl hk rfl rfl rfl rfl un22 sz3 c29.1 c29.2 hAc29 fun a hk=>se (hs.pick [] rfl) hk (hK_r24_6 _ _ ?_)
   refine tss hs hk rfl rfl fun _ hK_r24_7 w hs=>?_
   obtain ⟨_,rfl,e32⟩:=(v1_).at_ 0 u10 c29.1 c29.2
   refine sl (v:=(vI iS (l1.getD u10.toNat 0))) rfl hk rfl rfl rfl ag3 ((e32 0 _ rfl).cell (hs.hasD (k:=2) rfl)) fun a hk=>se (hs.pick [] rfl) hk (hK_r24_7 _ _ ?_)
   refine tss hs hk rfl rfl fun _ hK_r24_8 w hs=>sv (.bool ((l0.getD u10.toNat 0) != (l1.getD u10.toNat 0))) hk rfl rfl rfl fun a hk=>se (hs.pick [] rfl) hk (hK_r24_8 _ _ ?_)
   refine wtl_nil fun w hF _=>?_
   have hs:=hs.f hF
   refine hK23 _ _ ?_
   rcases cond_some H with ⟨c33,H⟩ | ⟨c33,H⟩
   ·have hk:=hk.lit 25 c33 rfl
    refine cnd_true hk rfl rfl <| sr fun _ hK34=>mv hk rfl fun a hk=>nx hK34 ?_
    have hs:=hs.pick [] rfl
    refine wp_ret ?_
    obtain rfl:=osi H
    have ho11:=h18
    try dsimp only at ho11
    subst ho11
    have H:=HL13
    try dsimp only at H
    obtain rfl:=osi H
    exact fin hk _ [(.bool false)] rfl ⟨rfl,trivial⟩ ⟨rfl,(hs.pick [] rfl).dnil⟩
   have hk:=hk.lit 25 c33 rfl
   refine cnd_false hk rfl rfl <| wp_skip <| hK22 _ _ ?_
   have hs:=hs.pick [] rfl
   apply wp_region_lit
   refine mv hk rfl fun a hk=>sv (vI iS (w64 (u10+1))) hk rfl rfl rfl fun a hk=>mv hk rfl fun a hk=>?_
   show wpList _ _ _ [] _ _
   refine wpList_nil ?_
   obtain rfl:=osi H
   obtain ⟨m35,hmm35,h18⟩:=h18
   show ∃ n',n'<_∧I15 n' _ _
   refine ⟨m35,hmm35,?_⟩
   rw [hI15]
   exact ⟨_,h18,(hk.al rfl),(hs.pick [] rfl)⟩
  have hk:=hk.lit 14 c21 rfl
  refine cnd_false hk rfl rfl <| wp_exit ?_
  obtain rfl:=osi H
  show R14 _ _
  rw [hR14]
  exact ⟨h18.symm,hk.k,(hs.pick [] rfl)⟩
 intro a w hR0
 rw [hR14] at hR0
 obtain ⟨rfl,hk,hs⟩:=hR0
 have H:=HL13
 try dsimp only at H
 refine hK6 _ _ <| sr fun _ hK36=>mv hk rfl fun a hk=>nx hK36 <| wp_ret ?_
 obtain rfl:=osi H
 exact fin hk _ [(.bool true)] rfl ⟨rfl,trivial⟩ ⟨rfl,(hs.pick [] rfl).dnil⟩
noncomputable def laws_markIntS.s0 (l0:List Int) (u6:List Int) (u10:Int) (u11:Int):Option (((List Int)×Int×Int) ⊕ Ex ((List Int)×Int) (Int×(List Int))) :=
  (bif (decide (u11<(l0.length:Int))) then (if 0≤u11∧u11<(l0.length:Int) then (some (.inl ((u6.set u11.toNat u10),(w64 (u10+1)),(w64 (u11+1))))) else none) else (some (.inr (.out (u6,u10)))))
noncomputable def laws_markIntS.f (l0:List Int) (x1:Int):Option (Int×(List Int)) :=
  ((loopO (fun s=>laws_markIntS.s0 l0 s.1 s.2.1 s.2.2) (l0,x1,0)).bind fun o=>match o with | .out (u12,u16)=>(some (u16,u12)) | .ret r=>(some r))
theorem laws_markIntS_t (w0:World) (A0_:Option Addr) (p0_:Nat) (l0:List Int) (k0_:Chunk) (v0_:Own (Lay.int iS) 3 A0_ p0_ l0 k0_) (x1:Int) (hs0:Sat (blks [(1,k0_)]) w0 w0 [] [(1,k0_)]) (r:Int×(List Int)) (H:laws_markIntS.f l0 x1=some r) :
    Calls Tryz.prog 9 #[vL A0_ l0.length p0_,vI iS x1] w0 (Ret (fun v w=>∃ (k0:Chunk),v=vI iS r.1∧(Own (Lay.int iS) 3 A0_ p0_ r.2 k0∧r.2.length=l0.length)∧Sat (blks [(1,k0_)]) w0 w [] [(0,k0)])):=by
 have hs:=hs0
 unfold laws_markIntS.f at H
 refine enter Tryz.func9 rfl Tryz.ntmps9 rfl fun a hk=>sr fun _ hK1=>mv hk rfl fun a hk=>nx hK1 <| sq fun _ hK2=>sr fun _ hK3=>mv hk rfl fun a hk=>nx hK3 ?_
 obtain ⟨o17,h18,HL19⟩:=bind_some H
 clear H
 obtain ⟨R20,hR20⟩:=nm fun a w=>∃ (u12:List Int) (u16:Int) (k13:Chunk),o17 = .out (u12,u16)∧Kn [(0,(vL A0_ l0.length p0_)),(1,(vI iS u16))] 19 a∧Sat (blks [(1,k0_)]) w0 w [] [(1,k13)]∧Own (Lay.int iS) 3 A0_ p0_ u12 k13∧u12.length=l0.length
 refine wp_cutq R20 ?_ ?_
 ·refine wp_block ?_
  obtain ⟨fu22,h18⟩:=loopO_some h18
  obtain ⟨I21,hI21⟩:=nm fun fu a w=>∃ (u6:List Int) (u10:Int) (u11:Int) (k7:Chunk),loopN (fun s=>laws_markIntS.s0 l0 s.1 s.2.1 s.2.2) fu (u6,u10,u11)=some o17∧Kn [(0,(vL A0_ l0.length p0_)),(1,(vI iS u10)),(5,(vI iS u11))] 19 a∧Sat (blks [(1,k0_)]) w0 w [] [(1,k7)]∧Own (Lay.int iS) 3 A0_ p0_ u6 k7∧u6.length=l0.length
  refine wp_loop_ghost I21 fu22 ?_ ?_
  ·rw [hI21]
   exact ⟨_,_,_,_,h18,(hk.al rfl),(hs.pick [(1,1)] rfl),v0_,rfl⟩
  clear h18 hk hs
  intro fu22 a w hI0
  rw [hI21] at hI0
  obtain ⟨u6,u10,u11,k7,hi,hk,hs,o8,lh9⟩:=hI0
  obtain ⟨x23,H,h24⟩:=loop_round hi
  try dsimp only at H
  unfold laws_markIntS.s0 at H
  refine sq fun _ hK25=>sr fun _ hK26=>mv hk rfl fun a hk=>mv hk rfl fun a hk=>sle rfl hk rfl rfl rfl un22 fun a hk=>sv (.bool (decide (u11<(l0.length:Int)))) hk rfl rfl rfl fun a hk=>nx hK26 ?_
  rcases cond_some H with ⟨c27,H⟩ | ⟨c27,H⟩
  ·have hk:=hk.lit 9 c27 rfl
   refine cnd_true hk rfl rfl <| wp_skip <| hK25 _ _ <| sq fun _ hK28=>wp_block ?_
   refine sr fun _ hK29=>mv hk rfl fun a hk=>mv hk rfl fun a hk=>mv hk rfl fun a hk=>?_
   obtain ⟨c30,H⟩:=ite_no H
   obtain ⟨b31,q32,hAc30⟩:=(o8.view).some_ u11 c30.1 (by rw [lh9];exact c30.2)
   refine si rfl hk rfl rfl rfl rfl un22 sz3 c30.1 c30.2 hAc30 fun a hk=>so (j:=0) 1 0 u10 hs rfl o8 c30.1 (by rw [lh9];exact c30.2) rfl hk rfl rfl rfl rfl rfl sz3 (by simp [Value.cells,Value.oneCell']) (Nat.le_of_ble_eq_true rfl) (fun _ _ h=>⟨by rw [h.1];rfl,h.2⟩) fun k33 w a hk o34 hs=>?_
   have lh35:(u6.set u11.toNat u10).length=l0.length:=by rw [List.length_set];exact lh9
   refine nx hK29 ?_
   apply wp_region_lit
   refine mv hk rfl fun a hk=>sv (vI iS (w64 (u10+1))) hk rfl rfl rfl fun a hk=>mv hk rfl fun a hk=>nx hK28 ?_
   apply wp_region_lit
   refine mv hk rfl fun a hk=>sv (vI iS (w64 (u11+1))) hk rfl rfl rfl fun a hk=>mv hk rfl fun a hk=>?_
   show wpList _ _ _ [] _ _
   refine wpList_nil ?_
   obtain rfl:=osi H
   obtain ⟨m36,hmm36,h24⟩:=h24
   show ∃ n',n'<_∧I21 n' _ _
   refine ⟨m36,hmm36,?_⟩
   rw [hI21]
   exact ⟨_,_,_,_,h24,(hk.al rfl),(hs.pick [(1,1)] rfl),o34,lh35⟩
  have hk:=hk.lit 9 c27 rfl
  refine cnd_false hk rfl rfl <| wp_exit ?_
  obtain rfl:=osi H
  show R20 _ _
  rw [hR20]
  exact ⟨_,_,_,h24.symm,(hk.al rfl),(hs.pick [(1,1)] rfl),o8,lh9⟩
 intro a w hR0
 rw [hR20] at hR0
 obtain ⟨u12,u16,k13,rfl,hk,hs,o14,lh15⟩:=hR0
 have H:=HL19
 try dsimp only at H
 refine hK2 _ _ <| sr fun _ hK37=>mv hk rfl fun a hk=>mv hk rfl fun a hk=>nx hK37 <| wp_ret ?_
 obtain rfl:=osi H
 exact fin hk _ [(vI iS u16)] rfl ⟨rfl,trivial⟩ ⟨_,rfl,⟨o14,lh15⟩,(hs.pick [(0,1)] rfl).dnil⟩
noncomputable def laws_markText.s0  (u10:Int) (u11:ByteArray):Option ((Int×ByteArray) ⊕ Ex (ByteArray) (ByteArray)) :=
  (bif (decide (u10>0)) then (if (strOfNums ([(wR iB (w64 (48+(Int.tmod u10 10))))])).size+u11.size≤1152921504606846976 then (some (.inl ((wR iS (Int.tdiv u10 10)),((strOfNums ([(wR iB (w64 (48+(Int.tmod u10 10))))]))++u11)))) else none) else (some (.inr (.out u11))))
noncomputable def laws_markText.f (x0:Int):Option (ByteArray) :=
  (bif (decide (x0≤0)) then (some (⟨#[109,48]⟩:ByteArray)) else ((loopO (fun s=>laws_markText.s0  s.1 s.2) (x0,(⟨#[]⟩:ByteArray))).bind fun o=>match o with | .out u12=>(if (⟨#[109]⟩:ByteArray).size+u12.size≤1152921504606846976 then (some ((⟨#[109]⟩:ByteArray)++u12)) else none) | .ret r=>(some r)))
theorem laws_markText_t (w0:World) (x0:Int) (r:ByteArray) (H:laws_markText.f x0=some r) :
    Calls Tryz.prog 70 #[vI iS x0] w0 (Ret (fun v w=>v=vS r∧Sat [] w0 w [] [])):=by
 have hs:=sat0 w0 [] (by simp)
 unfold laws_markText.f at H
 refine enter Tryz.func70 rfl Tryz.ntmps70 rfl fun a hk=>sr fun _ hK1=>mv hk rfl fun a hk=>nx hK1 <| sq fun _ hK2=>sr fun _ hK3=>mv hk rfl fun a hk=>sv (.bool (decide (x0≤0))) hk rfl rfl rfl fun a hk=>nx hK3 ?_
 rcases cond_some H with ⟨c4,H⟩ | ⟨c4,H⟩
 ·have hk:=hk.lit 5 c4 rfl
  refine cnd_true hk rfl rfl <| sr fun _ hK5=>mv hk rfl fun a hk=>nx hK5 <| wp_ret ?_
  obtain rfl:=osi H
  exact fin hk _ [(vS (⟨#[109,48]⟩:ByteArray))] rfl ⟨rfl,trivial⟩ ⟨rfl,(hs.pick [] rfl).dnil⟩
 have hk:=hk.lit 5 c4 rfl
 refine cnd_false hk rfl rfl <| wp_skip <| hK2 _ _ <| sr fun _ hK6=>mv hk rfl fun a hk=>nx hK6 ?_
 refine sq fun _ hK7=>?_
 obtain ⟨o13,h14,HL15⟩:=bind_some H
 clear H
 obtain ⟨R16,hR16⟩:=nm fun a w=>∃ (u12:ByteArray),o13 = .out u12∧Kn [(3,(vS u12))] 20 a∧Sat [] w0 w [] []
 refine wp_cutq R16 ?_ ?_
 ·refine wp_block ?_
  obtain ⟨fu18,h14⟩:=loopO_some h14
  obtain ⟨I17,hI17⟩:=nm fun fu a w=>∃ (u10:Int) (u11:ByteArray),loopN (fun s=>laws_markText.s0  s.1 s.2) fu (u10,u11)=some o13∧Kn [(0,(vI iS u10)),(3,(vS u11))] 20 a∧Sat [] w0 w [] []
  refine wp_loop_ghost I17 fu18 ?_ ?_
  ·rw [hI17]
   exact ⟨_,_,h14,(hk.al rfl),(hs.pick [] rfl)⟩
  clear h14 hk hs
  intro fu18 a w hI0
  rw [hI17] at hI0
  obtain ⟨u10,u11,hi,hk,hs⟩:=hI0
  obtain ⟨x19,H,h20⟩:=loop_round hi
  try dsimp only at H
  unfold laws_markText.s0 at H
  refine sq fun _ hK21=>sr fun _ hK22=>mv hk rfl fun a hk=>sv (.bool (decide (u10>0))) hk rfl rfl rfl fun a hk=>nx hK22 ?_
  rcases cond_some H with ⟨c23,H⟩ | ⟨c23,H⟩
  ·have hk:=hk.lit 7 c23 rfl
   refine cnd_true hk rfl rfl <| wp_skip <| hK21 _ _ <| wp_block ?_
   refine sr fun _ hK24=>mv hk rfl fun a hk=>sv (vI iS (Int.tmod u10 10)) hk rfl rfl rfl fun a hk=>sv (vI iS (w64 (48+(Int.tmod u10 10)))) hk rfl rfl rfl fun a hk=>scn rfl hk rfl rfl rfl un5 un3 fun a hk=>sbs (L:=(Lay.int iB)) (pv:=[(0,(vI iB (wR iB (w64 (48+(Int.tmod u10 10))))))]) (xs:=[(wR iB (w64 (48+(Int.tmod u10 10))))]) (ess:=[[vI iB (wR iB (w64 (48+(Int.tmod u10 10))))]]) 2 hs rfl hk rfl rfl rfl un101 (bs5_4 (wR iB (w64 (48+(Int.tmod u10 10))))) (AllOwn.cons0 ⟨rfl,rfl⟩ AllOwn.nil) rfl rfl rfl fun b25 k26 w a hk o27 hs=>sbt (xs:=([(wR iB (w64 (48+(Int.tmod u10 10))))])) rfl hk rfl rfl rfl rfl un101 un5 un9 o27.view (hs.hasG (k:=2) rfl) fun a hk=>mv hk rfl fun a hk=>?_
   obtain ⟨c28,H⟩:=ite_no H
   refine ssa rfl hk rfl rfl rfl rfl c28 fun a hk=>mv hk rfl fun a hk=>nx hK24 ?_
   apply wp_region_lit
   refine mv hk rfl fun a hk=>sv (vI iS (wR iS (Int.tdiv u10 10))) hk rfl rfl rfl fun a hk=>mv hk rfl fun a hk=>?_
   show wpList _ _ _ [] _ _
   refine wpList_nil ?_
   obtain rfl:=osi H
   obtain ⟨m29,hmm29,h20⟩:=h20
   show ∃ n',n'<_∧I17 n' _ _
   refine ⟨m29,hmm29,?_⟩
   rw [hI17]
   exact ⟨_,_,h20,(hk.al rfl),(hs.pick [] rfl)⟩
  have hk:=hk.lit 7 c23 rfl
  refine cnd_false hk rfl rfl <| wp_exit ?_
  obtain rfl:=osi H
  show R16 _ _
  rw [hR16]
  exact ⟨_,h20.symm,(hk.al rfl),(hs.pick [] rfl)⟩
 intro a w hR0
 rw [hR16] at hR0
 obtain ⟨u12,rfl,hk,hs⟩:=hR0
 have H:=HL15
 try dsimp only at H
 refine hK7 _ _ <| sr fun _ hK30=>mv hk rfl fun a hk=>?_
 obtain ⟨c31,H⟩:=ite_no H
 refine ssa rfl hk rfl rfl rfl rfl c31 fun a hk=>mv hk rfl fun a hk=>nx hK30 <| wp_ret ?_
 obtain rfl:=osi H
 exact fin hk _ [(vS ((⟨#[109]⟩:ByteArray)++u12))] rfl ⟨rfl,trivial⟩ ⟨rfl,(hs.pick [] rfl).dnil⟩
noncomputable def laws_markStringS.s0 (l0:List ByteArray) (u6:List ByteArray) (u10:Int) (u11:Int):Option (((List ByteArray)×Int×Int) ⊕ Ex ((List ByteArray)×Int) (Int×(List ByteArray))) :=
  (bif (decide (u11<(l0.length:Int))) then ((laws_markText.f u10).bind fun y30=>(if 0≤u11∧u11<(l0.length:Int) then (some (.inl ((u6.set u11.toNat y30),(w64 (u10+1)),(w64 (u11+1))))) else none)) else (some (.inr (.out (u6,u10)))))
noncomputable def laws_markStringS.f (l0:List ByteArray) (x1:Int):Option (Int×(List ByteArray)) :=
  ((loopO (fun s=>laws_markStringS.s0 l0 s.1 s.2.1 s.2.2) (l0,x1,0)).bind fun o=>match o with | .out (u12,u16)=>(some (u16,u12)) | .ret r=>(some r))
theorem laws_markStringS_t (w0:World) (A0_:Option Addr) (p0_:Nat) (l0:List ByteArray) (k0_:Chunk) (v0_:Own Lay.str 9 A0_ p0_ l0 k0_) (x1:Int) (hs0:Sat (blks [(1,k0_)]) w0 w0 [] [(1,k0_)]) (r:Int×(List ByteArray)) (H:laws_markStringS.f l0 x1=some r) :
    Calls Tryz.prog 42 #[vL A0_ l0.length p0_,vI iS x1] w0 (Ret (fun v w=>∃ (k0:Chunk),v=vI iS r.1∧(Own Lay.str 9 A0_ p0_ r.2 k0∧r.2.length=l0.length)∧Sat (blks [(1,k0_)]) w0 w [] [(0,k0)])):=by
 have hs:=hs0
 unfold laws_markStringS.f at H
 refine enter Tryz.func42 rfl Tryz.ntmps42 rfl fun a hk=>sr fun _ hK1=>mv hk rfl fun a hk=>nx hK1 <| sq fun _ hK2=>sr fun _ hK3=>mv hk rfl fun a hk=>nx hK3 ?_
 obtain ⟨o17,h18,HL19⟩:=bind_some H
 clear H
 obtain ⟨R20,hR20⟩:=nm fun a w=>∃ (u12:List ByteArray) (u16:Int) (k13:Chunk),o17 = .out (u12,u16)∧Kn [(0,(vL A0_ l0.length p0_)),(1,(vI iS u16))] 20 a∧Sat (blks [(1,k0_)]) w0 w [] [(1,k13)]∧Own Lay.str 9 A0_ p0_ u12 k13∧u12.length=l0.length
 refine wp_cutq R20 ?_ ?_
 ·refine wp_block ?_
  obtain ⟨fu22,h18⟩:=loopO_some h18
  obtain ⟨I21,hI21⟩:=nm fun fu a w=>∃ (u6:List ByteArray) (u10:Int) (u11:Int) (k7:Chunk),loopN (fun s=>laws_markStringS.s0 l0 s.1 s.2.1 s.2.2) fu (u6,u10,u11)=some o17∧Kn [(0,(vL A0_ l0.length p0_)),(1,(vI iS u10)),(5,(vI iS u11))] 20 a∧Sat (blks [(1,k0_)]) w0 w [] [(1,k7)]∧Own Lay.str 9 A0_ p0_ u6 k7∧u6.length=l0.length
  refine wp_loop_ghost I21 fu22 ?_ ?_
  ·rw [hI21]
   exact ⟨_,_,_,_,h18,(hk.al rfl),(hs.pick [(1,1)] rfl),v0_,rfl⟩
  clear h18 hk hs
  intro fu22 a w hI0
  rw [hI21] at hI0
  obtain ⟨u6,u10,u11,k7,hi,hk,hs,o8,lh9⟩:=hI0
  obtain ⟨x23,H,h24⟩:=loop_round hi
  try dsimp only at H
  unfold laws_markStringS.s0 at H
  refine sq fun _ hK25=>sr fun _ hK26=>mv hk rfl fun a hk=>mv hk rfl fun a hk=>sle rfl hk rfl rfl rfl un25 fun a hk=>sv (.bool (decide (u11<(l0.length:Int)))) hk rfl rfl rfl fun a hk=>nx hK26 ?_
  rcases cond_some H with ⟨c27,H⟩ | ⟨c27,H⟩
  ·have hk:=hk.lit 9 c27 rfl
   refine cnd_true hk rfl rfl <| wp_skip <| hK25 _ _ <| sq fun _ hK28=>wp_block ?_
   refine sr fun _ hK29=>mv hk rfl fun a hk=>mv hk rfl fun a hk=>mv hk rfl fun a hk=>?_
   obtain ⟨y30,h31,H⟩:=bind_some H
   refine sc rfl en70 hk rfl rfl rfl (laws_markText_t _ u10 _ h31) ?_
   rintro _ w ⟨rfl,hG⟩ a hk
   have hs:=hs.call0 hG
   obtain ⟨c32,H⟩:=ite_no H
   obtain ⟨b33,q34,hAc32⟩:=(o8.view).some_ u11 c32.1 (by rw [lh9];exact c32.2)
   refine si rfl hk rfl rfl rfl rfl un25 sz9 c32.1 c32.2 hAc32 fun a hk=>so (j:=0) 1 ByteArray.empty y30 hs rfl o8 c32.1 (by rw [lh9];exact c32.2) rfl hk rfl rfl rfl rfl rfl sz9 (by simp [Value.cells,Value.oneCell']) (Nat.le_of_ble_eq_true rfl) (fun _ _ h=>⟨by rw [h.1];rfl,h.2⟩) fun k35 w a hk o36 hs=>?_
   have lh37:(u6.set u11.toNat y30).length=l0.length:=by rw [List.length_set];exact lh9
   refine nx hK29 ?_
   apply wp_region_lit
   refine mv hk rfl fun a hk=>sv (vI iS (w64 (u10+1))) hk rfl rfl rfl fun a hk=>mv hk rfl fun a hk=>nx hK28 ?_
   apply wp_region_lit
   refine mv hk rfl fun a hk=>sv (vI iS (w64 (u11+1))) hk rfl rfl rfl fun a hk=>mv hk rfl fun a hk=>?_
   show wpList _ _ _ [] _ _
   refine wpList_nil ?_
   obtain rfl:=osi H
   obtain ⟨m38,hmm38,h24⟩:=h24
   show ∃ n',n'<_∧I21 n' _ _
   refine ⟨m38,hmm38,?_⟩
   rw [hI21]
   exact ⟨_,_,_,_,h24,(hk.al rfl),(hs.pick [(1,1)] rfl),o36,lh37⟩
  have hk:=hk.lit 9 c27 rfl
  refine cnd_false hk rfl rfl <| wp_exit ?_
  obtain rfl:=osi H
  show R20 _ _
  rw [hR20]
  exact ⟨_,_,_,h24.symm,(hk.al rfl),(hs.pick [(1,1)] rfl),o8,lh9⟩
 intro a w hR0
 rw [hR20] at hR0
 obtain ⟨u12,u16,k13,rfl,hk,hs,o14,lh15⟩:=hR0
 have H:=HL19
 try dsimp only at H
 refine hK2 _ _ <| sr fun _ hK39=>mv hk rfl fun a hk=>mv hk rfl fun a hk=>nx hK39 <| wp_ret ?_
 obtain rfl:=osi H
 exact fin hk _ [(vI iS u16)] rfl ⟨rfl,trivial⟩ ⟨_,rfl,⟨o14,lh15⟩,(hs.pick [(0,1)] rfl).dnil⟩
noncomputable def laws_markIoS.s0 (l0:List S_Io) (u6:List S_Io) (u10:Int) (u11:Int):Option (((List S_Io)×Int×Int) ⊕ Ex ((List S_Io)×Int) (Int×(List S_Io))) :=
  (bif (decide (u11<(l0.length:Int))) then (if 0≤u11∧u11<(l0.length:Int) then ((laws_markText.f (w64 (u10+1))).bind fun y38=>(if 0≤u11∧u11<(l0.length:Int) then (some (.inl (((u6.set u11.toNat (⟨u10,(u6.getD u11.toNat z_Io).Data⟩:S_Io)).set u11.toNat (⟨((u6.set u11.toNat (⟨u10,(u6.getD u11.toNat z_Io).Data⟩:S_Io)).getD u11.toNat z_Io).At,y38⟩:S_Io)),(w64 ((w64 (u10+1))+1)),(w64 (u11+1))))) else none)) else none) else (some (.inr (.out (u6,u10)))))
noncomputable def laws_markIoS.f (l0:List S_Io) (x1:Int):Option (Int×(List S_Io)) :=
  ((loopO (fun s=>laws_markIoS.s0 l0 s.1 s.2.1 s.2.2) (l0,x1,0)).bind fun o=>match o with | .out (u12,u16)=>(some (u16,u12)) | .ret r=>(some r))
theorem laws_markIoS_t (w0:World) (A0_:Option Addr) (p0_:Nat) (l0:List S_Io) (k0_:Chunk) (v0_:Own L_Io 84 A0_ p0_ l0 k0_) (x1:Int) (hs0:Sat (blks [(1,k0_)]) w0 w0 [] [(1,k0_)]) (r:Int×(List S_Io)) (H:laws_markIoS.f l0 x1=some r) :
    Calls Tryz.prog 43 #[vL A0_ l0.length p0_,vI iS x1] w0 (Ret (fun v w=>∃ (k0:Chunk),v=vI iS r.1∧(Own L_Io 84 A0_ p0_ r.2 k0∧r.2.length=l0.length)∧Sat (blks [(1,k0_)]) w0 w [] [(0,k0)])):=by
 have hs:=hs0
 unfold laws_markIoS.f at H
 refine enter Tryz.func43 rfl Tryz.ntmps43 rfl fun a hk=>sr fun _ hK1=>mv hk rfl fun a hk=>nx hK1 <| sq fun _ hK2=>sr fun _ hK3=>mv hk rfl fun a hk=>nx hK3 ?_
 obtain ⟨o17,h18,HL19⟩:=bind_some H
 clear H
 obtain ⟨R20,hR20⟩:=nm fun a w=>∃ (u12:List S_Io) (u16:Int) (k13:Chunk),o17 = .out (u12,u16)∧Kn [(0,(vL A0_ l0.length p0_)),(1,(vI iS u16))] 28 a∧Sat (blks [(1,k0_)]) w0 w [] [(1,k13)]∧Own L_Io 84 A0_ p0_ u12 k13∧u12.length=l0.length
 refine wp_cutq R20 ?_ ?_
 ·refine wp_block ?_
  obtain ⟨fu22,h18⟩:=loopO_some h18
  obtain ⟨I21,hI21⟩:=nm fun fu a w=>∃ (u6:List S_Io) (u10:Int) (u11:Int) (k7:Chunk),loopN (fun s=>laws_markIoS.s0 l0 s.1 s.2.1 s.2.2) fu (u6,u10,u11)=some o17∧Kn [(0,(vL A0_ l0.length p0_)),(1,(vI iS u10)),(5,(vI iS u11))] 28 a∧Sat (blks [(1,k0_)]) w0 w [] [(1,k7)]∧Own L_Io 84 A0_ p0_ u6 k7∧u6.length=l0.length
  refine wp_loop_ghost I21 fu22 ?_ ?_
  ·rw [hI21]
   exact ⟨_,_,_,_,h18,(hk.al rfl),(hs.pick [(1,1)] rfl),v0_,rfl⟩
  clear h18 hk hs
  intro fu22 a w hI0
  rw [hI21] at hI0
  obtain ⟨u6,u10,u11,k7,hi,hk,hs,o8,lh9⟩:=hI0
  obtain ⟨x23,H,h24⟩:=loop_round hi
  try dsimp only at H
  unfold laws_markIoS.s0 at H
  refine sq fun _ hK25=>sr fun _ hK26=>mv hk rfl fun a hk=>mv hk rfl fun a hk=>sle rfl hk rfl rfl rfl un26 fun a hk=>sv (.bool (decide (u11<(l0.length:Int)))) hk rfl rfl rfl fun a hk=>nx hK26 ?_
  rcases cond_some H with ⟨c27,H⟩ | ⟨c27,H⟩
  ·have hk:=hk.lit 9 c27 rfl
   refine cnd_true hk rfl rfl <| wp_skip <| hK25 _ _ <| sq fun _ hK28=>wp_block ?_
   refine sr fun _ hK29=>mv hk rfl fun a hk=>mv hk rfl fun a hk=>mv hk rfl fun a hk=>?_
   obtain ⟨c30,H⟩:=ite_no H
   obtain ⟨b31,q32,hAc30⟩:=(o8.view).some_ u11 c30.1 (by rw [lh9];exact c30.2)
   refine si rfl hk rfl rfl rfl rfl un26 sz84 c30.1 c30.2 hAc30 fun a hk=>sf (padd A0_ (u11.toNat*2+0)) rfl hk rfl rfl rfl fd84_0 (padd_add _ _ _) fun a hk=>so (j:=0) 1 z_Io (⟨u10,(u6.getD u11.toNat z_Io).Data⟩:S_Io) hs rfl o8 c30.1 (by rw [lh9];exact c30.2) rfl hk rfl rfl rfl rfl rfl sz3 (by simp [Value.cells,Value.oneCell']) (Nat.le_of_ble_eq_true rfl) (fun _ _ h=>⟨by rw [h.1];rfl,h.2⟩) fun k33 w a hk o34 hs=>?_
   have lh35:(u6.set u11.toNat (⟨u10,(u6.getD u11.toNat z_Io).Data⟩:S_Io)).length=l0.length:=by rw [List.length_set];exact lh9
   refine nx hK29 <| sr fun _ hK36=>mv hk rfl fun a hk=>sv (vI iS (w64 (u10+1))) hk rfl rfl rfl fun a hk=>mv hk rfl fun a hk=>nx hK36 <| sr fun _ hK37=>mv hk rfl fun a hk=>mv hk rfl fun a hk=>mv hk rfl fun a hk=>?_
   obtain ⟨y38,h39,H⟩:=bind_some H
   refine sc rfl en70 hk rfl rfl rfl (laws_markText_t _ (w64 (u10+1)) _ h39) ?_
   rintro _ w ⟨rfl,hG⟩ a hk
   have hs:=hs.call0 hG
   obtain ⟨c40,H⟩:=ite_no H
   obtain ⟨b41,q42,hAc40⟩:=(o34.view).some_ u11 c40.1 (by rw [lh35];exact c40.2)
   refine si rfl hk rfl rfl rfl rfl un26 sz84 c40.1 c40.2 hAc40 fun a hk=>sf (padd A0_ (u11.toNat*2+1)) rfl hk rfl rfl rfl fd84_1 (padd_add _ _ _) fun a hk=>so (j:=1) 1 z_Io (⟨((u6.set u11.toNat (⟨u10,(u6.getD u11.toNat z_Io).Data⟩:S_Io)).getD u11.toNat z_Io).At,y38⟩:S_Io) hs rfl o34 c40.1 (by rw [lh35];exact c40.2) rfl hk rfl rfl rfl rfl rfl sz9 (by simp [Value.cells,Value.oneCell']) (Nat.le_of_ble_eq_true rfl) (fun _ _ h=>⟨by rw [h.1];rfl,h.2⟩) fun k43 w a hk o44 hs=>?_
   have lh45:((u6.set u11.toNat (⟨u10,(u6.getD u11.toNat z_Io).Data⟩:S_Io)).set u11.toNat (⟨((u6.set u11.toNat (⟨u10,(u6.getD u11.toNat z_Io).Data⟩:S_Io)).getD u11.toNat z_Io).At,y38⟩:S_Io)).length=l0.length:=by rw [List.length_set];exact lh35
   refine nx hK37 ?_
   apply wp_region_lit
   refine mv hk rfl fun a hk=>sv (vI iS (w64 ((w64 (u10+1))+1))) hk rfl rfl rfl fun a hk=>mv hk rfl fun a hk=>nx hK28 ?_
   have hs:=hs.pick [(1,1)] rfl
   apply wp_region_lit
   refine mv hk rfl fun a hk=>sv (vI iS (w64 (u11+1))) hk rfl rfl rfl fun a hk=>mv hk rfl fun a hk=>?_
   show wpList _ _ _ [] _ _
   refine wpList_nil ?_
   obtain rfl:=osi H
   obtain ⟨m46,hmm46,h24⟩:=h24
   show ∃ n',n'<_∧I21 n' _ _
   refine ⟨m46,hmm46,?_⟩
   rw [hI21]
   exact ⟨_,_,_,_,h24,(hk.al rfl),(hs.pick [(1,1)] rfl),o44,lh45⟩
  have hk:=hk.lit 9 c27 rfl
  refine cnd_false hk rfl rfl <| wp_exit ?_
  obtain rfl:=osi H
  show R20 _ _
  rw [hR20]
  exact ⟨_,_,_,h24.symm,(hk.al rfl),(hs.pick [(1,1)] rfl),o8,lh9⟩
 intro a w hR0
 rw [hR20] at hR0
 obtain ⟨u12,u16,k13,rfl,hk,hs,o14,lh15⟩:=hR0
 have H:=HL19
 try dsimp only at H
 refine hK2 _ _ <| sr fun _ hK47=>mv hk rfl fun a hk=>mv hk rfl fun a hk=>nx hK47 <| wp_ret ?_
 obtain rfl:=osi H
 exact fin hk _ [(vI iS u16)] rfl ⟨rfl,trivial⟩ ⟨_,rfl,⟨o14,lh15⟩,(hs.pick [(0,1)] rfl).dnil⟩
noncomputable def laws_markDevice.f (x0:S_Device) (x1:Int):Option (Int×(List ByteArray)×(List S_Io)) :=
  ((laws_markStringS.f x0.Sure x1).bind fun y4=>((laws_markIoS.f x0.Unsure y4.1).bind fun y11=>(some (y11.1,y4.2,y11.2))))
theorem laws_markDevice_t (w0:World) (x0:S_Device) (A0_0:Option Addr) (p0_0:Nat) (k0_0:Chunk) (v0_0:Own Lay.str 9 A0_0 p0_0 x0.Sure k0_0) (A0_1:Option Addr) (p0_1:Nat) (k0_1:Chunk) (v0_1:Own L_Io 84 A0_1 p0_1 x0.Unsure k0_1) (x1:Int) (hs0:Sat (blks [(1,k0_0),(2,k0_1)]) w0 w0 [] [(1,k0_0),(2,k0_1)]) (r:Int×(List ByteArray)×(List S_Io)) (H:laws_markDevice.f x0 x1=some r) :
    Calls Tryz.prog 22 #[.agg #[vL A0_0 x0.Sure.length p0_0,vL A0_1 x0.Unsure.length p0_1],vI iS x1] w0 (Ret (fun v w=>∃ (k0:Chunk),∃ (k1:Chunk),v=vI iS r.1∧(Own Lay.str 9 A0_0 p0_0 r.2.1 k0∧r.2.1.length=x0.Sure.length)∧(Own L_Io 84 A0_1 p0_1 r.2.2 k1∧r.2.2.length=x0.Unsure.length)∧Sat (blks [(1,k0_0),(2,k0_1)]) w0 w [] [(0,k0),(1,k1)])):=by
 have hs:=hs0
 unfold laws_markDevice.f at H
 refine enter Tryz.func22 rfl Tryz.ntmps22 rfl fun a hk=>sr fun _ hK1=>sbx 3 hs rfl hk rfl rfl rfl rfl fun b2 w a hk hs=>mv hk rfl fun a hk=>nx hK1 <| sr fun _ hK3=>sf ⟨b2,0,none⟩ rfl hk rfl rfl rfl fd28_0 rfl fun a hk=>sl rfl hk rfl rfl rfl ag25 (box_cell hs (k:=3) rfl rfl) fun a hk=>mv hk rfl fun a hk=>?_
 obtain ⟨y4,h5,H⟩:=bind_some H
 refine sc rfl en42 hk rfl rfl rfl (laws_markStringS_t _ A0_0 p0_0 x0.Sure _ v0_0 x1 ((hs.hand [(1,1)] rfl).dpick [] rfl) _ h5) ?_
 rintro _ w ⟨k6,rfl,⟨o7,lh8⟩,hG⟩ a hk
 have hs:=hs.back [(1,1)] rfl hG [1] rfl
 have lh9:y4.2.length=x0.Sure.length:=lh8
 refine mv hk rfl fun a hk=>nx hK3 <| sr fun _ hK10=>sf ⟨b2,1,none⟩ rfl hk rfl rfl rfl fd28_1 rfl fun a hk=>sl rfl hk rfl rfl rfl ag26 (box_cell hs (k:=3) rfl rfl) fun a hk=>mv hk rfl fun a hk=>?_
 obtain ⟨y11,h12,H⟩:=bind_some H
 refine sc rfl en43 hk rfl rfl rfl (laws_markIoS_t _ A0_1 p0_1 x0.Unsure _ v0_1 y4.1 ((hs.hand [(1,2)] rfl).dpick [] rfl) _ h12) ?_
 rintro _ w ⟨k13,rfl,⟨o14,lh15⟩,hG⟩ a hk
 have hs:=hs.back [(1,2)] rfl hG [2] rfl
 have lh16:y11.2.length=x0.Unsure.length:=lh15
 refine mv hk rfl fun a hk=>nx hK10 <| sr fun _ hK17=>mv hk rfl fun a hk=>mv hk rfl fun a hk=>nx hK17 <| wp_ret ?_
 obtain rfl:=osi H
 exact fin hk _ [(vI iS y11.1)] rfl ⟨rfl,trivial⟩ ⟨_,_,rfl,⟨o7,lh9⟩,⟨o14,lh16⟩,(hs.pick [(0,1),(1,2)] rfl).dnil⟩
noncomputable def laws_markStore.f (x0:S_Store) (x1:Int):Option (Int×(List ByteArray)×(List S_Io)) :=
  ((laws_markDevice.f x0.Device x1).bind fun y4=>(some (y4.1,y4.2.1,y4.2.2)))
theorem laws_markStore_t (w0:World) (x0:S_Store) (A0_0:Option Addr) (p0_0:Nat) (k0_0:Chunk) (v0_0:Own Lay.str 9 A0_0 p0_0 x0.Device.Sure k0_0) (A0_1:Option Addr) (p0_1:Nat) (k0_1:Chunk) (v0_1:Own L_Io 84 A0_1 p0_1 x0.Device.Unsure k0_1) (x1:Int) (hs0:Sat (blks [(1,k0_0),(2,k0_1)]) w0 w0 [] [(1,k0_0),(2,k0_1)]) (r:Int×(List ByteArray)×(List S_Io)) (H:laws_markStore.f x0 x1=some r) :
    Calls Tryz.prog 10 #[.agg #[vS x0.Key,vI iS x0.Reg.Epoch,vI iS x0.Reg.Side,vI iS x0.Reg.Count,vI iS x0.Reg.Boot,vS x0.Reg.Base,vS x0.Reg.Tip,vS x0.Reg.Root,vL A0_0 x0.Device.Sure.length p0_0,vL A0_1 x0.Device.Unsure.length p0_1,.bool x0.Up,.bool x0.Dead],vI iS x1] w0 (Ret (fun v w=>∃ (k0:Chunk),∃ (k1:Chunk),v=vI iS r.1∧(Own Lay.str 9 A0_0 p0_0 r.2.1 k0∧r.2.1.length=x0.Device.Sure.length)∧(Own L_Io 84 A0_1 p0_1 r.2.2 k1∧r.2.2.length=x0.Device.Unsure.length)∧Sat (blks [(1,k0_0),(2,k0_1)]) w0 w [] [(0,k0),(1,k1)])):=by
 have hs:=hs0
 unfold laws_markStore.f at H
 refine enter Tryz.func10 rfl Tryz.ntmps10 rfl fun a hk=>sr fun _ hK1=>sbx 3 hs rfl hk rfl rfl rfl rfl fun b2 w a hk hs=>mv hk rfl fun a hk=>nx hK1 <| sr fun _ hK3=>sf ⟨b2,8,none⟩ rfl hk rfl rfl rfl fd30_2 rfl fun a hk=>sln [vL A0_0 x0.Device.Sure.length p0_0,vL A0_1 x0.Device.Unsure.length p0_1] rfl hk rfl rfl rfl ag28 sz28 (box_part hs (k:=3) rfl rfl) fun a hk=>mv hk rfl fun a hk=>?_
 obtain ⟨y4,h5,H⟩:=bind_some H
 refine sc rfl en22 hk rfl rfl rfl (laws_markDevice_t _ x0.Device A0_0 p0_0 _ v0_0 A0_1 p0_1 _ v0_1 x1 ((hs.hand [(1,1),(2,2)] rfl).dpick [] rfl) _ h5) ?_
 rintro _ w ⟨k6,k9,rfl,⟨o7,lh8⟩,⟨o10,lh11⟩,hG⟩ a hk
 have hs:=hs.back [(1,1),(2,2)] rfl hG [1,2] rfl
 have lh12:y4.2.1.length=x0.Device.Sure.length:=lh8
 have lh13:y4.2.2.length=x0.Device.Unsure.length:=lh11
 refine mv hk rfl fun a hk=>nx hK3 <| sr fun _ hK14=>mv hk rfl fun a hk=>mv hk rfl fun a hk=>nx hK14 <| wp_ret ?_
 obtain rfl:=osi H
 exact fin hk _ [(vI iS y4.1)] rfl ⟨rfl,trivial⟩ ⟨_,_,rfl,⟨o7,lh12⟩,⟨o10,lh13⟩,(hs.pick [(0,1),(1,2)] rfl).dnil⟩
noncomputable def laws_heldStringS.s0 (l0:List ByteArray) (u6:Int) (u7:Int):Option ((Int×Int) ⊕ Ex (Int) (Int)) :=
  (bif (decide (u7<(l0.length:Int))) then (if 0≤u7∧u7<(l0.length:Int) then ((laws_markText.f u6).bind fun y28=>(bif (!((l0.getD u7.toNat ByteArray.empty).toList==y28.toList)) then (some (.inr (.ret (-1)))) else (some (.inl ((w64 (u6+1)),(w64 (u7+1))))))) else none) else (some (.inr (.out u6))))
noncomputable def laws_heldStringS.f (l0:List ByteArray) (x1:Int):Option (Int) :=
  ((loopO (fun s=>laws_heldStringS.s0 l0 s.1 s.2) (x1,0)).bind fun o=>match o with | .out u8=>(some u8) | .ret r=>(some r))
theorem laws_heldStringS_t (w0:World) (A0_:Option Addr) (p0_:Nat) (l0:List ByteArray) (k0_:Chunk) (v0_:View Lay.str A0_ p0_ l0 k0_) (w0_:Has w0 k0_) (x1:Int) (r:Int) (H:laws_heldStringS.f l0 x1=some r) :
    Calls Tryz.prog 44 #[vL A0_ l0.length p0_,vI iS x1] w0 (Ret (fun v w=>v=vI iS r∧Sat [] w0 w [] [])):=by
 have hs:=sat0 w0 [(1,k0_)] (by simp only [List.mem_cons,List.not_mem_nil,or_false];rintro x (rfl) <;> assumption)
 unfold laws_heldStringS.f at H
 refine enter Tryz.func44 rfl Tryz.ntmps44 rfl fun a hk=>sr fun _ hK1=>mv hk rfl fun a hk=>nx hK1 <| sq fun _ hK2=>sr fun _ hK3=>mv hk rfl fun a hk=>nx hK3 ?_
 obtain ⟨o9,h10,HL11⟩:=bind_some H
 clear H
 obtain ⟨R12,hR12⟩:=nm fun a w=>∃ (u8:Int),o9 = .out u8∧Kn [(1,(vI iS u8))] 22 a∧Sat [] w0 w [(1,k0_)] []
 refine wp_cutq R12 ?_ ?_
 ·refine wp_block ?_
  obtain ⟨fu14,h10⟩:=loopO_some h10
  obtain ⟨I13,hI13⟩:=nm fun fu a w=>∃ (u6:Int) (u7:Int),loopN (fun s=>laws_heldStringS.s0 l0 s.1 s.2) fu (u6,u7)=some o9∧Kn [(0,(vL A0_ l0.length p0_)),(1,(vI iS u6)),(5,(vI iS u7))] 22 a∧Sat [] w0 w [(1,k0_)] []
  refine wp_loop_ghost I13 fu14 ?_ ?_
  ·rw [hI13]
   exact ⟨_,_,h10,(hk.al rfl),(hs.pick [] rfl)⟩
  clear h10 hk hs
  intro fu14 a w hI0
  rw [hI13] at hI0
  obtain ⟨u6,u7,hi,hk,hs⟩:=hI0
  obtain ⟨x15,H,h16⟩:=loop_round hi
  try dsimp only at H
  unfold laws_heldStringS.s0 at H
  refine sq fun _ hK17=>sr fun _ hK18=>mv hk rfl fun a hk=>mv hk rfl fun a hk=>sle rfl hk rfl rfl rfl un25 fun a hk=>sv (.bool (decide (u7<(l0.length:Int)))) hk rfl rfl rfl fun a hk=>nx hK18 ?_
  rcases cond_some H with ⟨c19,H⟩ | ⟨c19,H⟩
  ·have hk:=hk.lit 9 c19 rfl
   refine cnd_true hk rfl rfl <| wp_skip <| hK17 _ _ <| sq fun _ hK20=>wp_block ?_
   refine sq fun _ hK21=>sq fun _ hK22=>wp_region_tree (.q 0 (.q 1 (.q 2 (.q 3 (.alt 4 (.alt 5 (.alt 6 .done .stop) .stop) .stop))))) mo (by kernel_rfl) (hs.pick [] rfl) fun _=>?_
   have hs:=hs.drew
   refine tqm hk rfl fun a hk=>tqm hk rfl fun a hk=>?_
   obtain ⟨c24,H⟩:=ite_no H
   obtain ⟨b25,q26,hAc24⟩:=(v0_).some_ u7 c24.1 c24.2
   refine tqst _ hk rfl rfl rfl rfl (fun w hs=>si rfl hk rfl rfl rfl rfl un25 sz9 c24.1 c24.2 hAc24 fun a hk=>qe hk) fun a hk=>?_
   obtain ⟨_,rfl,e27⟩:=(v0_).at_ ByteArray.empty u7 c24.1 c24.2
   refine tqst _ hk rfl rfl rfl rfl (fun w hs=>sl (v:=(vS (l0.getD u7.toNat ByteArray.empty))) rfl hk rfl rfl rfl ag9 ((e27 0 _ rfl).cell (hs.hasD (k:=1) rfl)) fun a hk=>qe hk) fun a hk=>tss hs hk rfl rfl fun _ hK_r23_4 w hs=>mv hk rfl fun a hk=>se (hs.pick [] rfl) hk (hK_r23_4 _ _ ?_)
   refine tss hs hk rfl rfl fun _ hK_r23_5 w hs=>?_
   obtain ⟨y28,h29,H⟩:=bind_some H
   refine sc rfl en70 hk rfl rfl rfl (laws_markText_t _ u6 _ h29) ?_
   rintro _ w ⟨rfl,hG⟩ a hk
   have hs:=hs.call0 hG
   refine se (hs.pick [] rfl) hk (hK_r23_5 _ _ ?_)
   refine tss hs hk rfl rfl fun _ hK_r23_6 w hs=>sv (.bool (!((l0.getD u7.toNat ByteArray.empty).toList==y28.toList))) hk rfl rfl rfl fun a hk=>se (hs.pick [] rfl) hk (hK_r23_6 _ _ ?_)
   refine wtl_nil fun w hF _=>?_
   have hs:=hs.f hF
   refine hK22 _ _ ?_
   rcases cond_some H with ⟨c30,H⟩ | ⟨c30,H⟩
   ·have hk:=hk.lit 18 c30 rfl
    refine cnd_true hk rfl rfl <| sr fun _ hK31=>mv hk rfl fun a hk=>nx hK31 <| wp_ret ?_
    obtain rfl:=osi H
    have ho9:=h16
    try dsimp only at ho9
    subst ho9
    have H:=HL11
    try dsimp only at H
    obtain rfl:=osi H
    exact fin hk _ [(vI iS (-1))] rfl ⟨rfl,trivial⟩ ⟨rfl,(hs.pick [] rfl).dnil⟩
   have hk:=hk.lit 18 c30 rfl
   refine cnd_false hk rfl rfl <| wp_skip <| hK21 _ _ ?_
   apply wp_region_lit
   refine mv hk rfl fun a hk=>sv (vI iS (w64 (u6+1))) hk rfl rfl rfl fun a hk=>mv hk rfl fun a hk=>nx hK20 ?_
   apply wp_region_lit
   refine mv hk rfl fun a hk=>sv (vI iS (w64 (u7+1))) hk rfl rfl rfl fun a hk=>mv hk rfl fun a hk=>?_
   show wpList _ _ _ [] _ _
   refine wpList_nil ?_
   obtain rfl:=osi H
   obtain ⟨m32,hmm32,h16⟩:=h16
   show ∃ n',n'<_∧I13 n' _ _
   refine ⟨m32,hmm32,?_⟩
   rw [hI13]
   exact ⟨_,_,h16,(hk.al rfl),(hs.pick [] rfl)⟩
  have hk:=hk.lit 9 c19 rfl
  refine cnd_false hk rfl rfl <| wp_exit ?_
  obtain rfl:=osi H
  show R12 _ _
  rw [hR12]
  exact ⟨_,h16.symm,(hk.al rfl),(hs.pick [] rfl)⟩
 intro a w hR0
 rw [hR12] at hR0
 obtain ⟨u8,rfl,hk,hs⟩:=hR0
 have H:=HL11
 try dsimp only at H
 refine hK2 _ _ <| sr fun _ hK33=>mv hk rfl fun a hk=>mv hk rfl fun a hk=>nx hK33 <| wp_ret ?_
 obtain rfl:=osi H
 exact fin hk _ [(vI iS u8)] rfl ⟨rfl,trivial⟩ ⟨rfl,(hs.pick [] rfl).dnil⟩
noncomputable def laws_heldIoS.s0 (l0:List S_Io) (u6:Int) (u7:Int):Option ((Int×Int) ⊕ Ex (Int) (Int)) :=
  (bif (decide (u7<(l0.length:Int))) then (if 0≤u7∧u7<(l0.length:Int) then (bif (((l0.getD u7.toNat z_Io).At) != u6) then (some (.inr (.ret (-1)))) else (if 0≤u7∧u7<(l0.length:Int) then ((laws_markText.f (w64 (u6+1))).bind fun y37=>(bif (!(((l0.getD u7.toNat z_Io).Data).toList==y37.toList)) then (some (.inr (.ret (-1)))) else (some (.inl ((w64 ((w64 (u6+1))+1)),(w64 (u7+1))))))) else none)) else none) else (some (.inr (.out u6))))
noncomputable def laws_heldIoS.f (l0:List S_Io) (x1:Int):Option (Int) :=
  ((loopO (fun s=>laws_heldIoS.s0 l0 s.1 s.2) (x1,0)).bind fun o=>match o with | .out u8=>(some u8) | .ret r=>(some r))
theorem laws_heldIoS_t (w0:World) (A0_:Option Addr) (p0_:Nat) (l0:List S_Io) (k0_:Chunk) (v0_:View L_Io A0_ p0_ l0 k0_) (w0_:Has w0 k0_) (x1:Int) (r:Int) (H:laws_heldIoS.f l0 x1=some r) :
    Calls Tryz.prog 45 #[vL A0_ l0.length p0_,vI iS x1] w0 (Ret (fun v w=>v=vI iS r∧Sat [] w0 w [] [])):=by
 have hs:=sat0 w0 [(1,k0_)] (by simp only [List.mem_cons,List.not_mem_nil,or_false];rintro x (rfl) <;> assumption)
 unfold laws_heldIoS.f at H
 refine enter Tryz.func45 rfl Tryz.ntmps45 rfl fun a hk=>sr fun _ hK1=>mv hk rfl fun a hk=>nx hK1 <| sq fun _ hK2=>sr fun _ hK3=>mv hk rfl fun a hk=>nx hK3 ?_
 obtain ⟨o9,h10,HL11⟩:=bind_some H
 clear H
 obtain ⟨R12,hR12⟩:=nm fun a w=>∃ (u8:Int),o9 = .out u8∧Kn [(1,(vI iS u8))] 32 a∧Sat [] w0 w [(1,k0_)] []
 refine wp_cutq R12 ?_ ?_
 ·refine wp_block ?_
  obtain ⟨fu14,h10⟩:=loopO_some h10
  obtain ⟨I13,hI13⟩:=nm fun fu a w=>∃ (u6:Int) (u7:Int),loopN (fun s=>laws_heldIoS.s0 l0 s.1 s.2) fu (u6,u7)=some o9∧Kn [(0,(vL A0_ l0.length p0_)),(1,(vI iS u6)),(5,(vI iS u7))] 32 a∧Sat [] w0 w [(1,k0_)] []
  refine wp_loop_ghost I13 fu14 ?_ ?_
  ·rw [hI13]
   exact ⟨_,_,h10,(hk.al rfl),(hs.pick [] rfl)⟩
  clear h10 hk hs
  intro fu14 a w hI0
  rw [hI13] at hI0
  obtain ⟨u6,u7,hi,hk,hs⟩:=hI0
  obtain ⟨x15,H,h16⟩:=loop_round hi
  try dsimp only at H
  unfold laws_heldIoS.s0 at H
  refine sq fun _ hK17=>sr fun _ hK18=>mv hk rfl fun a hk=>mv hk rfl fun a hk=>sle rfl hk rfl rfl rfl un26 fun a hk=>sv (.bool (decide (u7<(l0.length:Int)))) hk rfl rfl rfl fun a hk=>nx hK18 ?_
  rcases cond_some H with ⟨c19,H⟩ | ⟨c19,H⟩
  ·have hk:=hk.lit 9 c19 rfl
   refine cnd_true hk rfl rfl <| wp_skip <| hK17 _ _ <| sq fun _ hK20=>wp_block ?_
   refine sq fun _ hK21=>sr fun _ hK22=>mv hk rfl fun a hk=>mv hk rfl fun a hk=>?_
   obtain ⟨c23,H⟩:=ite_no H
   obtain ⟨b24,q25,hAc23⟩:=(v0_).some_ u7 c23.1 c23.2
   refine si rfl hk rfl rfl rfl rfl un26 sz84 c23.1 c23.2 hAc23 fun a hk=>sf (padd A0_ (u7.toNat*2+0)) rfl hk rfl rfl rfl fd84_0 (padd_add _ _ _) fun a hk=>?_
   obtain ⟨_,rfl,e26⟩:=(v0_).at_ z_Io u7 c23.1 c23.2
   refine sl (v:=(vI iS ((l0.getD u7.toNat z_Io).At))) rfl hk rfl rfl rfl ag3 ((e26 0 _ rfl).cell (hs.hasD (k:=1) rfl)) fun a hk=>mv hk rfl fun a hk=>sv (.bool (((l0.getD u7.toNat z_Io).At) != u6)) hk rfl rfl rfl fun a hk=>nx hK22 ?_
   rcases cond_some H with ⟨c27,H⟩ | ⟨c27,H⟩
   ·have hk:=hk.lit 18 c27 rfl
    refine cnd_true hk rfl rfl <| sr fun _ hK28=>mv hk rfl fun a hk=>nx hK28 <| wp_ret ?_
    obtain rfl:=osi H
    have ho9:=h16
    try dsimp only at ho9
    subst ho9
    have H:=HL11
    try dsimp only at H
    obtain rfl:=osi H
    exact fin hk _ [(vI iS (-1))] rfl ⟨rfl,trivial⟩ ⟨rfl,(hs.pick [] rfl).dnil⟩
   have hk:=hk.lit 18 c27 rfl
   refine cnd_false hk rfl rfl <| wp_skip <| hK21 _ _ <| sr fun _ hK29=>mv hk rfl fun a hk=>sv (vI iS (w64 (u6+1))) hk rfl rfl rfl fun a hk=>mv hk rfl fun a hk=>nx hK29 ?_
   refine sq fun _ hK30=>sq fun _ hK31=>wp_region_tree (.q 0 (.q 1 (.q 2 (.q 3 (.q 4 (.alt 5 (.alt 6 (.alt 7 .done .stop) .stop) .stop)))))) mo (by kernel_rfl) (hs.pick [] rfl) fun _=>?_
   have hs:=hs.drew
   refine tqm hk rfl fun a hk=>tqm hk rfl fun a hk=>?_
   obtain ⟨c33,H⟩:=ite_no H
   obtain ⟨b34,q35,hAc33⟩:=(v0_).some_ u7 c33.1 c33.2
   refine tqst _ hk rfl rfl rfl rfl (fun w hs=>si rfl hk rfl rfl rfl rfl un26 sz84 c33.1 c33.2 hAc33 fun a hk=>qe hk) fun a hk=>tqst _ hk rfl rfl rfl rfl (fun w hs=>sf (padd A0_ (u7.toNat*2+1)) rfl hk rfl rfl rfl fd84_1 (padd_add _ _ _) fun a hk=>qe hk) fun a hk=>?_
   obtain ⟨_,rfl,e36⟩:=(v0_).at_ z_Io u7 c33.1 c33.2
   refine tqst _ hk rfl rfl rfl rfl (fun w hs=>sl (v:=(vS ((l0.getD u7.toNat z_Io).Data))) rfl hk rfl rfl rfl ag9 ((e36 1 _ rfl).cell (hs.hasD (k:=1) rfl)) fun a hk=>qe hk) fun a hk=>tss hs hk rfl rfl fun _ hK_r32_5 w hs=>mv hk rfl fun a hk=>se (hs.pick [] rfl) hk (hK_r32_5 _ _ ?_)
   refine tss hs hk rfl rfl fun _ hK_r32_6 w hs=>?_
   obtain ⟨y37,h38,H⟩:=bind_some H
   refine sc rfl en70 hk rfl rfl rfl (laws_markText_t _ (w64 (u6+1)) _ h38) ?_
   rintro _ w ⟨rfl,hG⟩ a hk
   have hs:=hs.call0 hG
   refine se (hs.pick [] rfl) hk (hK_r32_6 _ _ ?_)
   refine tss hs hk rfl rfl fun _ hK_r32_7 w hs=>sv (.bool (!(((l0.getD u7.toNat z_Io).Data).toList==y37.toList))) hk rfl rfl rfl fun a hk=>se (hs.pick [] rfl) hk (hK_r32_7 _ _ ?_)
   refine wtl_nil fun w hF _=>?_
   have hs:=hs.f hF
   refine hK31 _ _ ?_
   have hs:=hs.pick [] rfl
   rcases cond_some H with ⟨c39,H⟩ | ⟨c39,H⟩
   ·have hk:=hk.lit 28 c39 rfl
    refine cnd_true hk rfl rfl <| sr fun _ hK40=>mv hk rfl fun a hk=>nx hK40 <| wp_ret ?_
    obtain rfl:=osi H
    have ho9:=h16
    try dsimp only at ho9
    subst ho9
    have H:=HL11
    try dsimp only at H
    obtain rfl:=osi H
    exact fin hk _ [(vI iS (-1))] rfl ⟨rfl,trivial⟩ ⟨rfl,(hs.pick [] rfl).dnil⟩
   have hk:=hk.lit 28 c39 rfl
   refine cnd_false hk rfl rfl <| wp_skip <| hK30 _ _ ?_
   apply wp_region_lit
   refine mv hk rfl fun a hk=>sv (vI iS (w64 ((w64 (u6+1))+1))) hk rfl rfl rfl fun a hk=>mv hk rfl fun a hk=>nx hK20 ?_
   apply wp_region_lit
   refine mv hk rfl fun a hk=>sv (vI iS (w64 (u7+1))) hk rfl rfl rfl fun a hk=>mv hk rfl fun a hk=>?_
   show wpList _ _ _ [] _ _
   refine wpList_nil ?_
   obtain rfl:=osi H
   obtain ⟨m41,hmm41,h16⟩:=h16
   show ∃ n',n'<_∧I13 n' _ _
   refine ⟨m41,hmm41,?_⟩
   rw [hI13]
   exact ⟨_,_,h16,(hk.al rfl),(hs.pick [] rfl)⟩
  have hk:=hk.lit 9 c19 rfl
  refine cnd_false hk rfl rfl <| wp_exit ?_
  obtain rfl:=osi H
  show R12 _ _
  rw [hR12]
  exact ⟨_,h16.symm,(hk.al rfl),(hs.pick [] rfl)⟩
 intro a w hR0
 rw [hR12] at hR0
 obtain ⟨u8,rfl,hk,hs⟩:=hR0
 have H:=HL11
 try dsimp only at H
 refine hK2 _ _ <| sr fun _ hK42=>mv hk rfl fun a hk=>mv hk rfl fun a hk=>nx hK42 <| wp_ret ?_
 obtain rfl:=osi H
 exact fin hk _ [(vI iS u8)] rfl ⟨rfl,trivial⟩ ⟨rfl,(hs.pick [] rfl).dnil⟩
noncomputable def laws_heldDevice.f (x0:S_Device) (x1:Int):Option (Int) :=
  ((laws_heldStringS.f x0.Sure x1).bind fun y4=>(bif (decide (y4<0)) then (some (-1)) else ((laws_heldIoS.f x0.Unsure y4).bind fun y11=>(bif (decide (y11<0)) then (some (-1)) else (some y11)))))
theorem laws_heldDevice_t (w0:World) (x0:S_Device) (A0_0:Option Addr) (p0_0:Nat) (k0_0:Chunk) (v0_0:View Lay.str A0_0 p0_0 x0.Sure k0_0) (w0_0:Has w0 k0_0) (A0_1:Option Addr) (p0_1:Nat) (k0_1:Chunk) (v0_1:View L_Io A0_1 p0_1 x0.Unsure k0_1) (w0_1:Has w0 k0_1) (x1:Int) (r:Int) (H:laws_heldDevice.f x0 x1=some r) :
    Calls Tryz.prog 23 #[.agg #[vL A0_0 x0.Sure.length p0_0,vL A0_1 x0.Unsure.length p0_1],vI iS x1] w0 (Ret (fun v w=>v=vI iS r∧Sat [] w0 w [] [])):=by
 have hs:=sat0 w0 [(1,k0_0),(2,k0_1)] (by simp only [List.mem_cons,List.not_mem_nil,or_false];rintro x (rfl | rfl) <;> assumption)
 unfold laws_heldDevice.f at H
 refine enter Tryz.func23 rfl Tryz.ntmps23 rfl fun a hk=>sr fun _ hK1=>sbx 3 hs rfl hk rfl rfl rfl rfl fun b2 w a hk hs=>mv hk rfl fun a hk=>nx hK1 <| sr fun _ hK3=>sf ⟨b2,0,none⟩ rfl hk rfl rfl rfl fd28_0 rfl fun a hk=>sl rfl hk rfl rfl rfl ag25 (box_cell hs (k:=3) rfl rfl) fun a hk=>mv hk rfl fun a hk=>?_
 obtain ⟨y4,h5,H⟩:=bind_some H
 refine sc rfl en44 hk rfl rfl rfl (laws_heldStringS_t _ A0_0 p0_0 x0.Sure _ v0_0 (hs.hasD (k:=1) rfl) x1 _ h5) ?_
 rintro _ w ⟨rfl,hG⟩ a hk
 have hs:=hs.call0 hG
 refine mv hk rfl fun a hk=>nx hK3 <| sq fun _ hK6=>sr fun _ hK7=>mv hk rfl fun a hk=>sv (.bool (decide (y4<0))) hk rfl rfl rfl fun a hk=>nx hK7 ?_
 rcases cond_some H with ⟨c8,H⟩ | ⟨c8,H⟩
 ·have hk:=hk.lit 10 c8 rfl
  refine cnd_true hk rfl rfl <| sr fun _ hK9=>mv hk rfl fun a hk=>nx hK9 <| wp_ret ?_
  obtain rfl:=osi H
  exact fin hk _ [(vI iS (-1))] rfl ⟨rfl,trivial⟩ ⟨rfl,(hs.pick [] rfl).dnil⟩
 have hk:=hk.lit 10 c8 rfl
 refine cnd_false hk rfl rfl <| wp_skip <| hK6 _ _ <| sr fun _ hK10=>sf ⟨b2,1,none⟩ rfl hk rfl rfl rfl fd28_1 rfl fun a hk=>sl rfl hk rfl rfl rfl ag26 (box_cell hs (k:=3) rfl rfl) fun a hk=>mv hk rfl fun a hk=>?_
 obtain ⟨y11,h12,H⟩:=bind_some H
 refine sc rfl en45 hk rfl rfl rfl (laws_heldIoS_t _ A0_1 p0_1 x0.Unsure _ v0_1 (hs.hasD (k:=2) rfl) y4 _ h12) ?_
 rintro _ w ⟨rfl,hG⟩ a hk
 have hs:=hs.call0 hG
 refine mv hk rfl fun a hk=>nx hK10 <| sq fun _ hK13=>sr fun _ hK14=>mv hk rfl fun a hk=>sv (.bool (decide (y11<0))) hk rfl rfl rfl fun a hk=>nx hK14 ?_
 rcases cond_some H with ⟨c15,H⟩ | ⟨c15,H⟩
 ·have hk:=hk.lit 16 c15 rfl
  refine cnd_true hk rfl rfl <| sr fun _ hK16=>mv hk rfl fun a hk=>nx hK16 <| wp_ret ?_
  obtain rfl:=osi H
  exact fin hk _ [(vI iS (-1))] rfl ⟨rfl,trivial⟩ ⟨rfl,(hs.pick [] rfl).dnil⟩
 have hk:=hk.lit 16 c15 rfl
 refine cnd_false hk rfl rfl <| wp_skip <| hK13 _ _ <| sr fun _ hK17=>mv hk rfl fun a hk=>mv hk rfl fun a hk=>nx hK17 ?_
 have hs:=hs.pick [] rfl
 refine wp_ret ?_
 obtain rfl:=osi H
 exact fin hk _ [(vI iS y11)] rfl ⟨rfl,trivial⟩ ⟨rfl,(hs.pick [] rfl).dnil⟩
noncomputable def laws_heldStore.f (x0:S_Store) (x1:Int):Option (Int) :=
  ((laws_heldDevice.f x0.Device x1).bind fun y4=>(bif (decide (y4<0)) then (some (-1)) else (some y4)))
theorem laws_heldStore_t (w0:World) (x0:S_Store) (A0_0:Option Addr) (p0_0:Nat) (k0_0:Chunk) (v0_0:View Lay.str A0_0 p0_0 x0.Device.Sure k0_0) (w0_0:Has w0 k0_0) (A0_1:Option Addr) (p0_1:Nat) (k0_1:Chunk) (v0_1:View L_Io A0_1 p0_1 x0.Device.Unsure k0_1) (w0_1:Has w0 k0_1) (x1:Int) (r:Int) (H:laws_heldStore.f x0 x1=some r) :
    Calls Tryz.prog 11 #[.agg #[vS x0.Key,vI iS x0.Reg.Epoch,vI iS x0.Reg.Side,vI iS x0.Reg.Count,vI iS x0.Reg.Boot,vS x0.Reg.Base,vS x0.Reg.Tip,vS x0.Reg.Root,vL A0_0 x0.Device.Sure.length p0_0,vL A0_1 x0.Device.Unsure.length p0_1,.bool x0.Up,.bool x0.Dead],vI iS x1] w0 (Ret (fun v w=>v=vI iS r∧Sat [] w0 w [] [])):=by
 have hs:=sat0 w0 [(1,k0_0),(2,k0_1)] (by simp only [List.mem_cons,List.not_mem_nil,or_false];rintro x (rfl | rfl) <;> assumption)
 unfold laws_heldStore.f at H
 refine enter Tryz.func11 rfl Tryz.ntmps11 rfl fun a hk=>sr fun _ hK1=>sbx 3 hs rfl hk rfl rfl rfl rfl fun b2 w a hk hs=>mv hk rfl fun a hk=>nx hK1 <| sr fun _ hK3=>sf ⟨b2,8,none⟩ rfl hk rfl rfl rfl fd30_2 rfl fun a hk=>sln [vL A0_0 x0.Device.Sure.length p0_0,vL A0_1 x0.Device.Unsure.length p0_1] rfl hk rfl rfl rfl ag28 sz28 (box_part hs (k:=3) rfl rfl) fun a hk=>mv hk rfl fun a hk=>?_
 obtain ⟨y4,h5,H⟩:=bind_some H
 refine sc rfl en23 hk rfl rfl rfl (laws_heldDevice_t _ x0.Device A0_0 p0_0 _ v0_0 (hs.hasD (k:=1) rfl) A0_1 p0_1 _ v0_1 (hs.hasD (k:=2) rfl) x1 _ h5) ?_
 rintro _ w ⟨rfl,hG⟩ a hk
 have hs:=hs.call0 hG
 refine mv hk rfl fun a hk=>nx hK3 <| sq fun _ hK6=>sr fun _ hK7=>mv hk rfl fun a hk=>sv (.bool (decide (y4<0))) hk rfl rfl rfl fun a hk=>nx hK7 ?_
 rcases cond_some H with ⟨c8,H⟩ | ⟨c8,H⟩
 ·have hk:=hk.lit 10 c8 rfl
  refine cnd_true hk rfl rfl <| sr fun _ hK9=>mv hk rfl fun a hk=>nx hK9 <| wp_ret ?_
  obtain rfl:=osi H
  exact fin hk _ [(vI iS (-1))] rfl ⟨rfl,trivial⟩ ⟨rfl,(hs.pick [] rfl).dnil⟩
 have hk:=hk.lit 10 c8 rfl
 refine cnd_false hk rfl rfl <| wp_skip <| hK6 _ _ <| sr fun _ hK10=>mv hk rfl fun a hk=>mv hk rfl fun a hk=>nx hK10 ?_
 refine wp_ret ?_
 obtain rfl:=osi H
 exact fin hk _ [(vI iS y4)] rfl ⟨rfl,trivial⟩ ⟨rfl,(hs.pick [] rfl).dnil⟩
noncomputable def laws_FnExactInit.f (x0:ByteArray) (l1:List Int):Option (Bool) :=
  (bif (decide ((x0.size:Int)>1048576)) then (some true) else (bif (decide ((l1.length:Int)>1048576)) then (some true) else ((laws_toIntS.f l1).bind fun y11=>((spec_Init.f x0 y11).bind fun y17=>((laws_toIntS.f l1).bind fun y29=>((impl_Init.f x0 y29).bind fun y36=>((((laws_eqStore.f y36.1 y17.1).bind fun y55=>(bif (!y55) then (some true) else (some (y36.2 != y17.2)))):Option (Bool)).bind fun u50=>(bif u50 then (some false) else ((laws_toIntS.f l1).bind fun y62=>((laws_eqIntS.f y29 y62).bind fun y68=>(bif (!y68) then (some false) else ((laws_markIntS.f y29 1).bind fun y74=>(((bif (decide (y74.1<0)) then (some true) else ((laws_eqStore.f y36.1 y17.1).bind fun y89=>(bif (!y89) then (some true) else (some (y36.2 != y17.2))))):Option (Bool)).bind fun u83=>(bif u83 then (some false) else ((laws_markStore.f y36.1 1).bind fun y96=>((laws_heldStore.f (⟨y36.1.Key,y36.1.Reg,(⟨y96.2.1,y96.2.2⟩:S_Device),y36.1.Up,y36.1.Dead⟩:S_Store) 1).bind fun y108=>(bif (decide (y108<0)) then (some false) else (bif (y108 != y96.1) then (some false) else ((laws_toIntS.f l1).bind fun y119=>((impl_Init.f x0 y119).bind fun y125=>((((laws_eqStore.f y125.1 y17.1).bind fun y144=>(bif (!y144) then (some true) else (some (y125.2 != y17.2)))):Option (Bool)).bind fun u139=>(bif u139 then (some false) else ((laws_heldStore.f (⟨y36.1.Key,y36.1.Reg,(⟨y96.2.1,y96.2.2⟩:S_Device),y36.1.Up,y36.1.Dead⟩:S_Store) 1).bind fun y151=>(bif (decide (y151<0)) then (some false) else (bif (y151 != y96.1) then (some false) else (some true))))))))))))))))))))))))))
theorem laws_FnExactInit_t (w0:World) (x0:ByteArray) (A1_:Option Addr) (p1_:Nat) (l1:List Int) (k1_:Chunk) (v1_:View (Lay.int iS) A1_ p1_ l1 k1_) (w1_:Has w0 k1_) (r:Bool) (H:laws_FnExactInit.f x0 l1=some r) :
    Calls Tryz.prog 3 #[vS x0,vL A1_ l1.length p1_] w0 (Ret (fun v w=>v = .bool r∧Sat [] w0 w [] [])):=by
 have hs:=sat0 w0 [(1,k1_)] (by simp only [List.mem_cons,List.not_mem_nil,or_false];rintro x (rfl) <;> assumption)
 unfold laws_FnExactInit.f at H
 refine enter Tryz.func3 rfl Tryz.ntmps3 rfl fun a hk=>sr fun _ hK1=>mv hk rfl fun a hk=>nx hK1 <| sq fun _ hK2=>sr fun _ hK3=>mv hk rfl fun a hk=>sles rfl hk rfl rfl rfl un9 fun a hk=>sv (.bool (decide ((x0.size:Int)>1048576))) hk rfl rfl rfl fun a hk=>nx hK3 ?_
 rcases cond_some H with ⟨c4,H⟩ | ⟨c4,H⟩
 ·have hk:=hk.lit 17 c4 rfl
  refine cnd_true hk rfl rfl <| sr fun _ hK5=>mv hk rfl fun a hk=>nx hK5 <| wp_ret ?_
  obtain rfl:=osi H
  exact fin hk _ [(.bool true)] rfl ⟨rfl,trivial⟩ ⟨rfl,(hs.pick [] rfl).dnil⟩
 have hk:=hk.lit 17 c4 rfl
 refine cnd_false hk rfl rfl <| wp_skip <| hK2 _ _ <| sq fun _ hK6=>sr fun _ hK7=>mv hk rfl fun a hk=>sle rfl hk rfl rfl rfl un22 fun a hk=>sv (.bool (decide ((l1.length:Int)>1048576))) hk rfl rfl rfl fun a hk=>nx hK7 ?_
 rcases cond_some H with ⟨c8,H⟩ | ⟨c8,H⟩
 ·have hk:=hk.lit 20 c8 rfl
  refine cnd_true hk rfl rfl <| sr fun _ hK9=>mv hk rfl fun a hk=>nx hK9 <| wp_ret ?_
  obtain rfl:=osi H
  exact fin hk _ [(.bool true)] rfl ⟨rfl,trivial⟩ ⟨rfl,(hs.pick [] rfl).dnil⟩
 have hk:=hk.lit 20 c8 rfl
 refine cnd_false hk rfl rfl <| wp_skip <| hK6 _ _ <| sr fun _ hK10=>mv hk rfl fun a hk=>mv hk rfl fun a hk=>?_
 obtain ⟨y11,h12,H⟩:=bind_some H
 refine sc rfl en5 hk rfl rfl rfl (laws_toIntS_t _ A1_ p1_ l1 _ v1_ (hs.hasD (k:=1) rfl) _ h12) ?_
 rintro _ w ⟨A13,p14,k15,rfl,o16,hG⟩ a hk
 have hs:=hs.call0k hG [2] rfl
 obtain ⟨y17,h18,H⟩:=bind_some H
 refine sc rfl en4 hk rfl rfl rfl (spec_Init_t _ x0 A13 p14 y11 _ o16.view (hs.hasG (k:=2) rfl) _ h18) ?_
 rintro _ w ⟨A19,p20,k21,A23,p24,k25,rfl,o22,o26,hG⟩ a hk
 have hs:=hs.call0k hG [3,4] rfl
 refine mv hk rfl fun a hk=>sv (.agg #[vS y17.1.Key,vI iS y17.1.Reg.Epoch,vI iS y17.1.Reg.Side,vI iS y17.1.Reg.Count,vI iS y17.1.Reg.Boot,vS y17.1.Reg.Base,vS y17.1.Reg.Tip,vS y17.1.Reg.Root,vL A19 y17.1.Device.Sure.length p20,vL A23 y17.1.Device.Unsure.length p24,.bool y17.1.Up,.bool y17.1.Dead]) hk rfl rfl rfl fun a hk=>sv (vI iS y17.2) hk rfl rfl rfl fun a hk=>salx 5 hs rfl hk rfl rfl ze30 rfl fun b27 w a hk hs=>ssw 5 hs rfl rfl hk rfl rfl rfl rfl sz30 (by simp [Value.oneCell']) rfl fun w a hk hs=>mv hk rfl fun a hk=>nx hK10 <| sr fun _ hK28=>mv hk rfl fun a hk=>?_
 obtain ⟨y29,h30,H⟩:=bind_some H
 refine sc rfl en5 hk rfl rfl rfl (laws_toIntS_t _ A1_ p1_ l1 _ v1_ (hs.hasD (k:=1) rfl) _ h30) ?_
 rintro _ w ⟨A31,p32,k33,rfl,o34,hG⟩ a hk
 have hs:=hs.call0k hG [6] rfl
 refine mv hk rfl fun a hk=>nx hK28 <| sr fun _ hK35=>mv hk rfl fun a hk=>mv hk rfl fun a hk=>?_
 obtain ⟨y36,h37,H⟩:=bind_some H
 refine sc rfl en6 hk rfl rfl rfl (impl_Init_t _ x0 A31 p32 y29 _ o34.view (hs.hasG (k:=6) rfl) _ h37) ?_
 rintro _ w ⟨A38,p39,k40,A42,p43,k44,rfl,o41,o45,hG⟩ a hk
 have hs:=hs.call0k hG [7,8] rfl
 refine mv hk rfl fun a hk=>sv (.agg #[vS y36.1.Key,vI iS y36.1.Reg.Epoch,vI iS y36.1.Reg.Side,vI iS y36.1.Reg.Count,vI iS y36.1.Reg.Boot,vS y36.1.Reg.Base,vS y36.1.Reg.Tip,vS y36.1.Reg.Root,vL A38 y36.1.Device.Sure.length p39,vL A42 y36.1.Device.Unsure.length p43,.bool y36.1.Up,.bool y36.1.Dead]) hk rfl rfl rfl fun a hk=>sv (vI iS y36.2) hk rfl rfl rfl fun a hk=>salx 9 hs rfl hk rfl rfl ze30 rfl fun b46 w a hk hs=>ssw 9 hs rfl rfl hk rfl rfl rfl rfl sz30 (by simp [Value.oneCell']) rfl fun w a hk hs=>mv hk rfl fun a hk=>nx hK35 ?_
 have hs:=hs.pick [(6,6),(5,5),(3,3),(4,4),(9,9),(7,7),(8,8)] rfl
 refine sq fun _ hK47=>sq fun _ hK48=>?_
 obtain ⟨o51,h52,HL53⟩:=bind_some H
 clear H
 obtain ⟨R54,hR54⟩:=nm fun a w=>∃ (u50:Bool),u50=o51∧Kn [(0,(vS x0)),(1,(vL A1_ l1.length p1_)),(5,(vP (some ⟨b27,0,none⟩))),(6,(vI iS y17.2)),(7,(vL A31 y29.length p32)),(8,(vP (some ⟨b46,0,none⟩))),(9,(vI iS y36.2)),(44,(.bool u50))] 101 a∧Sat [] w0 w [(1,k1_)] [(6,k33),(5,[(b27,.cells #[vS y17.1.Key,vI iS y17.1.Reg.Epoch,vI iS y17.1.Reg.Side,vI iS y17.1.Reg.Count,vI iS y17.1.Reg.Boot,vS y17.1.Reg.Base,vS y17.1.Reg.Tip,vS y17.1.Reg.Root,vL A19 y17.1.Device.Sure.length p20,vL A23 y17.1.Device.Unsure.length p24,.bool y17.1.Up,.bool y17.1.Dead] 30 (0,0))]),(3,k21),(4,k25),(9,[(b46,.cells #[vS y36.1.Key,vI iS y36.1.Reg.Epoch,vI iS y36.1.Reg.Side,vI iS y36.1.Reg.Count,vI iS y36.1.Reg.Boot,vS y36.1.Reg.Base,vS y36.1.Reg.Tip,vS y36.1.Reg.Root,vL A38 y36.1.Device.Sure.length p39,vL A42 y36.1.Device.Unsure.length p43,.bool y36.1.Up,.bool y36.1.Dead] 30 (0,0))]),(7,k40),(8,k44)]
 refine wp_cutq R54 ?_ ?_
 ·have H:=h52
  apply wp_region_lit
  refine sln [vS y36.1.Key,vI iS y36.1.Reg.Epoch,vI iS y36.1.Reg.Side,vI iS y36.1.Reg.Count,vI iS y36.1.Reg.Boot,vS y36.1.Reg.Base,vS y36.1.Reg.Tip,vS y36.1.Reg.Root,vL A38 y36.1.Device.Sure.length p39,vL A42 y36.1.Device.Unsure.length p43,.bool y36.1.Up,.bool y36.1.Dead] rfl hk rfl rfl rfl ag30 sz30 (box_cells hs (k:=9) rfl) fun a hk=>sln [vS y17.1.Key,vI iS y17.1.Reg.Epoch,vI iS y17.1.Reg.Side,vI iS y17.1.Reg.Count,vI iS y17.1.Reg.Boot,vS y17.1.Reg.Base,vS y17.1.Reg.Tip,vS y17.1.Reg.Root,vL A19 y17.1.Device.Sure.length p20,vL A23 y17.1.Device.Unsure.length p24,.bool y17.1.Up,.bool y17.1.Dead] rfl hk rfl rfl rfl ag30 sz30 (box_cells hs (k:=5) rfl) fun a hk=>?_
  obtain ⟨y55,h56,H⟩:=bind_some H
  refine sc rfl en7 hk rfl rfl rfl (laws_eqStore_t _ y36.1 A38 p39 _ o41.view (hs.hasG (k:=7) rfl) A42 p43 _ o45.view (hs.hasG (k:=8) rfl) y17.1 A19 p20 _ o22.view (hs.hasG (k:=3) rfl) A23 p24 _ o26.view (hs.hasG (k:=4) rfl) _ h56) ?_
  rintro _ w ⟨rfl,hG⟩ a hk
  have hs:=hs.call0 hG
  refine sv (.bool (!y55)) hk rfl rfl rfl fun a hk=>mv hk rfl fun a hk=>?_
  rcases cond_some H with ⟨c57,H⟩ | ⟨c57,H⟩
  ·have hk:=hk.lit 40 c57 rfl
   refine sk hk rfl rfl rfl fun a hk=>sk hk rfl rfl rfl fun a hk=>sk hk rfl rfl rfl fun a hk=>sv (.bool true) hk rfl rfl rfl fun a hk=>?_
   show wpList _ _ _ [] _ _
   refine wpList_nil ?_
   obtain rfl:=osi H
   show R54 _ _
   rw [hR54]
   exact ⟨true,rfl,(hk.al rfl),(hs.pick [(6,6),(5,5),(3,3),(4,4),(9,9),(7,7),(8,8)] rfl)⟩
  have hk:=hk.lit 40 c57 rfl
  refine mv hk rfl fun a hk=>mv hk rfl fun a hk=>sv (.bool (y36.2 != y17.2)) hk rfl rfl rfl fun a hk=>sv (.bool (y36.2 != y17.2)) hk rfl rfl rfl fun a hk=>?_
  show wpList _ _ _ [] _ _
  refine wpList_nil ?_
  obtain rfl:=osi H
  show R54 _ _
  rw [hR54]
  exact ⟨(y36.2 != y17.2),rfl,(hk.al rfl),(hs.pick [(6,6),(5,5),(3,3),(4,4),(9,9),(7,7),(8,8)] rfl)⟩
 intro a w hR0
 rw [hR54] at hR0
 obtain ⟨u50,rfl,hk,hs⟩:=hR0
 have H:=HL53
 try dsimp only at H
 refine hK48 _ _ ?_
 rcases cond_some H with ⟨c58,H⟩ | ⟨c58,H⟩
 ·have hk:=hk.lit 44 c58 rfl
  refine cnd_true hk rfl rfl <| sr fun _ hK59=>mv hk rfl fun a hk=>nx hK59 <| wp_ret ?_
  obtain rfl:=osi H
  exact fin hk _ [(.bool false)] rfl ⟨rfl,trivial⟩ ⟨rfl,(hs.pick [] rfl).dnil⟩
 have hk:=hk.lit 44 c58 rfl
 refine cnd_false hk rfl rfl <| wp_skip <| hK47 _ _ <| sq fun _ hK60=>sr fun _ hK61=>mv hk rfl fun a hk=>mv hk rfl fun a hk=>?_
 obtain ⟨y62,h63,H⟩:=bind_some H
 refine sc rfl en5 hk rfl rfl rfl (laws_toIntS_t _ A1_ p1_ l1 _ v1_ (hs.hasD (k:=1) rfl) _ h63) ?_
 rintro _ w ⟨A64,p65,k66,rfl,o67,hG⟩ a hk
 have hs:=hs.call0k hG [11] rfl
 obtain ⟨y68,h69,H⟩:=bind_some H
 refine sc rfl en8 hk rfl rfl rfl (laws_eqIntS_t _ A31 p32 y29 _ o34.view (hs.hasG (k:=6) rfl) A64 p65 y62 _ o67.view (hs.hasG (k:=11) rfl) _ h69) ?_
 rintro _ w ⟨rfl,hG⟩ a hk
 have hs:=hs.call0 hG
 refine sv (.bool (!y68)) hk rfl rfl rfl fun a hk=>nx hK61 ?_
 rcases cond_some H with ⟨c70,H⟩ | ⟨c70,H⟩
 ·have hk:=hk.lit 49 c70 rfl
  refine cnd_true hk rfl rfl <| sr fun _ hK71=>mv hk rfl fun a hk=>nx hK71 <| wp_ret ?_
  obtain rfl:=osi H
  exact fin hk _ [(.bool false)] rfl ⟨rfl,trivial⟩ ⟨rfl,(hs.pick [] rfl).dnil⟩
 have hk:=hk.lit 49 c70 rfl
 refine cnd_false hk rfl rfl <| wp_skip <| hK60 _ _ <| sr fun _ hK72=>mv hk rfl fun a hk=>nx hK72 ?_
 refine sr fun _ hK73=>mv hk rfl fun a hk=>mv hk rfl fun a hk=>?_
 obtain ⟨y74,h75,H⟩:=bind_some H
 refine sc rfl en9 hk rfl rfl rfl (laws_markIntS_t _ A31 p32 y29 _ o34 1 ((hs.hand [(1,6)] rfl).dpick [] rfl) _ h75) ?_
 rintro _ w ⟨k76,rfl,⟨o77,lh78⟩,hG⟩ a hk
 have hs:=hs.back [(1,6)] rfl hG [6] rfl
 have lh79:y74.2.length=y29.length:=lh78
 refine mv hk rfl fun a hk=>nx hK73 <| sq fun _ hK80=>sq fun _ hK81=>?_
 obtain ⟨o84,h85,HL86⟩:=bind_some H
 clear H
 obtain ⟨R87,hR87⟩:=nm fun a w=>∃ (u83:Bool),u83=o84∧Kn [(0,(vS x0)),(1,(vL A1_ l1.length p1_)),(5,(vP (some ⟨b27,0,none⟩))),(6,(vI iS y17.2)),(8,(vP (some ⟨b46,0,none⟩))),(65,(.bool u83))] 101 a∧Sat [] w0 w [(1,k1_)] [(5,[(b27,.cells #[vS y17.1.Key,vI iS y17.1.Reg.Epoch,vI iS y17.1.Reg.Side,vI iS y17.1.Reg.Count,vI iS y17.1.Reg.Boot,vS y17.1.Reg.Base,vS y17.1.Reg.Tip,vS y17.1.Reg.Root,vL A19 y17.1.Device.Sure.length p20,vL A23 y17.1.Device.Unsure.length p24,.bool y17.1.Up,.bool y17.1.Dead] 30 (0,0))]),(3,k21),(4,k25),(9,[(b46,.cells #[vS y36.1.Key,vI iS y36.1.Reg.Epoch,vI iS y36.1.Reg.Side,vI iS y36.1.Reg.Count,vI iS y36.1.Reg.Boot,vS y36.1.Reg.Base,vS y36.1.Reg.Tip,vS y36.1.Reg.Root,vL A38 y36.1.Device.Sure.length p39,vL A42 y36.1.Device.Unsure.length p43,.bool y36.1.Up,.bool y36.1.Dead] 30 (0,0))]),(7,k40),(8,k44)]
 refine wp_cutq R87 ?_ ?_
 ·have H:=h85
  apply wp_region_lit
  refine mv hk rfl fun a hk=>sv (.bool (decide (y74.1<0))) hk rfl rfl rfl fun a hk=>mv hk rfl fun a hk=>?_
  rcases cond_some H with ⟨c88,H⟩ | ⟨c88,H⟩
  ·have hk:=hk.lit 55 c88 rfl
   refine sk hk rfl rfl rfl fun a hk=>sk hk rfl rfl rfl fun a hk=>sk hk rfl rfl rfl fun a hk=>sk hk rfl rfl rfl fun a hk=>sv (.bool true) hk rfl rfl rfl fun a hk=>mv hk rfl fun a hk=>sk hk rfl rfl rfl fun a hk=>sk hk rfl rfl rfl fun a hk=>sk hk rfl rfl rfl fun a hk=>sv (.bool true) hk rfl rfl rfl fun a hk=>?_
   show wpList _ _ _ [] _ _
   refine wpList_nil ?_
   obtain rfl:=osi H
   show R87 _ _
   rw [hR87]
   exact ⟨true,rfl,(hk.al rfl),(hs.pick [(5,5),(3,3),(4,4),(9,9),(7,7),(8,8)] rfl)⟩
  have hk:=hk.lit 55 c88 rfl
  refine sln [vS y36.1.Key,vI iS y36.1.Reg.Epoch,vI iS y36.1.Reg.Side,vI iS y36.1.Reg.Count,vI iS y36.1.Reg.Boot,vS y36.1.Reg.Base,vS y36.1.Reg.Tip,vS y36.1.Reg.Root,vL A38 y36.1.Device.Sure.length p39,vL A42 y36.1.Device.Unsure.length p43,.bool y36.1.Up,.bool y36.1.Dead] rfl hk rfl rfl rfl ag30 sz30 (box_cells hs (k:=9) rfl) fun a hk=>sln [vS y17.1.Key,vI iS y17.1.Reg.Epoch,vI iS y17.1.Reg.Side,vI iS y17.1.Reg.Count,vI iS y17.1.Reg.Boot,vS y17.1.Reg.Base,vS y17.1.Reg.Tip,vS y17.1.Reg.Root,vL A19 y17.1.Device.Sure.length p20,vL A23 y17.1.Device.Unsure.length p24,.bool y17.1.Up,.bool y17.1.Dead] rfl hk rfl rfl rfl ag30 sz30 (box_cells hs (k:=5) rfl) fun a hk=>?_
  obtain ⟨y89,h90,H⟩:=bind_some H
  refine sc rfl en7 hk rfl rfl rfl (laws_eqStore_t _ y36.1 A38 p39 _ o41.view (hs.hasG (k:=7) rfl) A42 p43 _ o45.view (hs.hasG (k:=8) rfl) y17.1 A19 p20 _ o22.view (hs.hasG (k:=3) rfl) A23 p24 _ o26.view (hs.hasG (k:=4) rfl) _ h90) ?_
  rintro _ w ⟨rfl,hG⟩ a hk
  have hs:=hs.call0 hG
  refine sv (.bool (!y89)) hk rfl rfl rfl fun a hk=>sv (.bool (!y89)) hk rfl rfl rfl fun a hk=>mv hk rfl fun a hk=>?_
  rcases cond_some H with ⟨c91,H⟩ | ⟨c91,H⟩
  ·have hk:=hk.lit 61 c91 rfl
   refine sk hk rfl rfl rfl fun a hk=>sk hk rfl rfl rfl fun a hk=>sk hk rfl rfl rfl fun a hk=>sv (.bool true) hk rfl rfl rfl fun a hk=>?_
   show wpList _ _ _ [] _ _
   refine wpList_nil ?_
   obtain rfl:=osi H
   show R87 _ _
   rw [hR87]
   exact ⟨true,rfl,(hk.al rfl),(hs.pick [(5,5),(3,3),(4,4),(9,9),(7,7),(8,8)] rfl)⟩
  have hk:=hk.lit 61 c91 rfl
  refine mv hk rfl fun a hk=>mv hk rfl fun a hk=>sv (.bool (y36.2 != y17.2)) hk rfl rfl rfl fun a hk=>sv (.bool (y36.2 != y17.2)) hk rfl rfl rfl fun a hk=>?_
  show wpList _ _ _ [] _ _
  refine wpList_nil ?_
  obtain rfl:=osi H
  show R87 _ _
  rw [hR87]
  exact ⟨(y36.2 != y17.2),rfl,(hk.al rfl),(hs.pick [(5,5),(3,3),(4,4),(9,9),(7,7),(8,8)] rfl)⟩
 intro a w hR0
 rw [hR87] at hR0
 obtain ⟨u83,rfl,hk,hs⟩:=hR0
 have H:=HL86
 try dsimp only at H
 refine hK81 _ _ ?_
 rcases cond_some H with ⟨c92,H⟩ | ⟨c92,H⟩
 ·have hk:=hk.lit 65 c92 rfl
  refine cnd_true hk rfl rfl <| sr fun _ hK93=>mv hk rfl fun a hk=>nx hK93 ?_
  have hs:=hs.pick [] rfl
  refine wp_ret ?_
  obtain rfl:=osi H
  exact fin hk _ [(.bool false)] rfl ⟨rfl,trivial⟩ ⟨rfl,(hs.pick [] rfl).dnil⟩
 have hk:=hk.lit 65 c92 rfl
 refine cnd_false hk rfl rfl <| wp_skip <| hK80 _ _ ?_
 have hs:=hs.pick [(5,5),(3,3),(4,4),(9,9),(7,7),(8,8)] rfl
 refine sr fun _ hK94=>mv hk rfl fun a hk=>nx hK94 <| sr fun _ hK95=>sln [vS y36.1.Key,vI iS y36.1.Reg.Epoch,vI iS y36.1.Reg.Side,vI iS y36.1.Reg.Count,vI iS y36.1.Reg.Boot,vS y36.1.Reg.Base,vS y36.1.Reg.Tip,vS y36.1.Reg.Root,vL A38 y36.1.Device.Sure.length p39,vL A42 y36.1.Device.Unsure.length p43,.bool y36.1.Up,.bool y36.1.Dead] rfl hk rfl rfl rfl ag30 sz30 (box_cells hs (k:=9) rfl) fun a hk=>mv hk rfl fun a hk=>?_
 obtain ⟨y96,h97,H⟩:=bind_some H
 refine sc rfl en10 hk rfl rfl rfl (laws_markStore_t _ y36.1 A38 p39 _ o41 A42 p43 _ o45 1 ((hs.hand [(1,7),(2,8)] rfl).dpick [] rfl) _ h97) ?_
 rintro _ w ⟨k98,k101,rfl,⟨o99,lh100⟩,⟨o102,lh103⟩,hG⟩ a hk
 have hs:=hs.back [(1,7),(2,8)] rfl hG [7,8] rfl
 have lh104:y96.2.1.length=y36.1.Device.Sure.length:=lh100
 have lh105:y96.2.2.length=y36.1.Device.Unsure.length:=lh103
 refine mv hk rfl fun a hk=>nx hK95 <| sr fun _ hK106=>mv hk rfl fun a hk=>nx hK106 <| sr fun _ hK107=>sln [vS y36.1.Key,vI iS y36.1.Reg.Epoch,vI iS y36.1.Reg.Side,vI iS y36.1.Reg.Count,vI iS y36.1.Reg.Boot,vS y36.1.Reg.Base,vS y36.1.Reg.Tip,vS y36.1.Reg.Root,vL A38 y36.1.Device.Sure.length p39,vL A42 y36.1.Device.Unsure.length p43,.bool y36.1.Up,.bool y36.1.Dead] rfl hk rfl rfl rfl ag30 sz30 (box_cells hs (k:=9) rfl) fun a hk=>mv hk rfl fun a hk=>?_
 have hk:=hk.re 69 (v':=(.agg #[vS y36.1.Key,vI iS y36.1.Reg.Epoch,vI iS y36.1.Reg.Side,vI iS y36.1.Reg.Count,vI iS y36.1.Reg.Boot,vS y36.1.Reg.Base,vS y36.1.Reg.Tip,vS y36.1.Reg.Root,vL A38 y96.2.1.length p39,vL A42 y96.2.2.length p43,.bool y36.1.Up,.bool y36.1.Dead])) rfl (by rw [lh104,lh105])
 obtain ⟨y108,h109,H⟩:=bind_some H
 refine sc rfl en11 hk rfl rfl rfl (laws_heldStore_t _ (⟨y36.1.Key,y36.1.Reg,(⟨y96.2.1,y96.2.2⟩:S_Device),y36.1.Up,y36.1.Dead⟩:S_Store) A38 p39 _ o99.view (hs.hasG (k:=7) rfl) A42 p43 _ o102.view (hs.hasG (k:=8) rfl) 1 _ h109) ?_
 rintro _ w ⟨rfl,hG⟩ a hk
 have hs:=hs.call0 hG
 refine mv hk rfl fun a hk=>nx hK107 <| sq fun _ hK110=>sr fun _ hK111=>mv hk rfl fun a hk=>sv (.bool (decide (y108<0))) hk rfl rfl rfl fun a hk=>nx hK111 ?_
 rcases cond_some H with ⟨c112,H⟩ | ⟨c112,H⟩
 ·have hk:=hk.lit 73 c112 rfl
  refine cnd_true hk rfl rfl <| sr fun _ hK113=>mv hk rfl fun a hk=>nx hK113 <| wp_ret ?_
  obtain rfl:=osi H
  exact fin hk _ [(.bool false)] rfl ⟨rfl,trivial⟩ ⟨rfl,(hs.pick [] rfl).dnil⟩
 have hk:=hk.lit 73 c112 rfl
 refine cnd_false hk rfl rfl <| wp_skip <| hK110 _ _ <| sq fun _ hK114=>sr fun _ hK115=>mv hk rfl fun a hk=>mv hk rfl fun a hk=>sv (.bool (y108 != y96.1)) hk rfl rfl rfl fun a hk=>nx hK115 ?_
 rcases cond_some H with ⟨c116,H⟩ | ⟨c116,H⟩
 ·have hk:=hk.lit 76 c116 rfl
  refine cnd_true hk rfl rfl <| sr fun _ hK117=>mv hk rfl fun a hk=>nx hK117 ?_
  have hs:=hs.pick [] rfl
  refine wp_ret ?_
  obtain rfl:=osi H
  exact fin hk _ [(.bool false)] rfl ⟨rfl,trivial⟩ ⟨rfl,(hs.pick [] rfl).dnil⟩
 have hk:=hk.lit 76 c116 rfl
 refine cnd_false hk rfl rfl <| wp_skip <| hK114 _ _ ?_
 have hs:=hs.pick [(5,5),(3,3),(4,4),(9,9),(7,7),(8,8)] rfl
 refine sr fun _ hK118=>mv hk rfl fun a hk=>mv hk rfl fun a hk=>?_
 obtain ⟨y119,h120,H⟩:=bind_some H
 refine sc rfl en5 hk rfl rfl rfl (laws_toIntS_t _ A1_ p1_ l1 _ v1_ (hs.hasD (k:=1) rfl) _ h120) ?_
 rintro _ w ⟨A121,p122,k123,rfl,o124,hG⟩ a hk
 have hs:=hs.call0k hG [13] rfl
 obtain ⟨y125,h126,H⟩:=bind_some H
 refine sc rfl en6 hk rfl rfl rfl (impl_Init_t _ x0 A121 p122 y119 _ o124.view (hs.hasG (k:=13) rfl) _ h126) ?_
 rintro _ w ⟨A127,p128,k129,A131,p132,k133,rfl,o130,o134,hG⟩ a hk
 have hs:=hs.call0k hG [14,15] rfl
 refine mv hk rfl fun a hk=>sv (.agg #[vS y125.1.Key,vI iS y125.1.Reg.Epoch,vI iS y125.1.Reg.Side,vI iS y125.1.Reg.Count,vI iS y125.1.Reg.Boot,vS y125.1.Reg.Base,vS y125.1.Reg.Tip,vS y125.1.Reg.Root,vL A127 y125.1.Device.Sure.length p128,vL A131 y125.1.Device.Unsure.length p132,.bool y125.1.Up,.bool y125.1.Dead]) hk rfl rfl rfl fun a hk=>sv (vI iS y125.2) hk rfl rfl rfl fun a hk=>salx 16 hs rfl hk rfl rfl ze30 rfl fun b135 w a hk hs=>ssw 16 hs rfl rfl hk rfl rfl rfl rfl sz30 (by simp [Value.oneCell']) rfl fun w a hk hs=>mv hk rfl fun a hk=>nx hK118 <| sq fun _ hK136=>sq fun _ hK137=>?_
 obtain ⟨o140,h141,HL142⟩:=bind_some H
 clear H
 obtain ⟨R143,hR143⟩:=nm fun a w=>∃ (u139:Bool),u139=o140∧Kn [(8,(vP (some ⟨b46,0,none⟩))),(11,(vI iS y96.1)),(92,(.bool u139))] 101 a∧Sat [] w0 w [(1,k1_)] [(9,[(b46,.cells #[vS y36.1.Key,vI iS y36.1.Reg.Epoch,vI iS y36.1.Reg.Side,vI iS y36.1.Reg.Count,vI iS y36.1.Reg.Boot,vS y36.1.Reg.Base,vS y36.1.Reg.Tip,vS y36.1.Reg.Root,vL A38 y36.1.Device.Sure.length p39,vL A42 y36.1.Device.Unsure.length p43,.bool y36.1.Up,.bool y36.1.Dead] 30 (0,0))]),(7,k98),(8,k101)]
 refine wp_cutq R143 ?_ ?_
 ·have H:=h141
  apply wp_region_lit
  refine sln [vS y125.1.Key,vI iS y125.1.Reg.Epoch,vI iS y125.1.Reg.Side,vI iS y125.1.Reg.Count,vI iS y125.1.Reg.Boot,vS y125.1.Reg.Base,vS y125.1.Reg.Tip,vS y125.1.Reg.Root,vL A127 y125.1.Device.Sure.length p128,vL A131 y125.1.Device.Unsure.length p132,.bool y125.1.Up,.bool y125.1.Dead] rfl hk rfl rfl rfl ag30 sz30 (box_cells hs (k:=16) rfl) fun a hk=>sln [vS y17.1.Key,vI iS y17.1.Reg.Epoch,vI iS y17.1.Reg.Side,vI iS y17.1.Reg.Count,vI iS y17.1.Reg.Boot,vS y17.1.Reg.Base,vS y17.1.Reg.Tip,vS y17.1.Reg.Root,vL A19 y17.1.Device.Sure.length p20,vL A23 y17.1.Device.Unsure.length p24,.bool y17.1.Up,.bool y17.1.Dead] rfl hk rfl rfl rfl ag30 sz30 (box_cells hs (k:=5) rfl) fun a hk=>?_
  obtain ⟨y144,h145,H⟩:=bind_some H
  refine sc rfl en7 hk rfl rfl rfl (laws_eqStore_t _ y125.1 A127 p128 _ o130.view (hs.hasG (k:=14) rfl) A131 p132 _ o134.view (hs.hasG (k:=15) rfl) y17.1 A19 p20 _ o22.view (hs.hasG (k:=3) rfl) A23 p24 _ o26.view (hs.hasG (k:=4) rfl) _ h145) ?_
  rintro _ w ⟨rfl,hG⟩ a hk
  have hs:=hs.call0 hG
  refine sv (.bool (!y144)) hk rfl rfl rfl fun a hk=>mv hk rfl fun a hk=>?_
  rcases cond_some H with ⟨c146,H⟩ | ⟨c146,H⟩
  ·have hk:=hk.lit 88 c146 rfl
   refine sk hk rfl rfl rfl fun a hk=>sk hk rfl rfl rfl fun a hk=>sk hk rfl rfl rfl fun a hk=>sv (.bool true) hk rfl rfl rfl fun a hk=>?_
   show wpList _ _ _ [] _ _
   refine wpList_nil ?_
   obtain rfl:=osi H
   show R143 _ _
   rw [hR143]
   exact ⟨true,rfl,(hk.al rfl),(hs.pick [(9,9),(7,7),(8,8)] rfl)⟩
  have hk:=hk.lit 88 c146 rfl
  refine mv hk rfl fun a hk=>mv hk rfl fun a hk=>sv (.bool (y125.2 != y17.2)) hk rfl rfl rfl fun a hk=>sv (.bool (y125.2 != y17.2)) hk rfl rfl rfl fun a hk=>?_
  show wpList _ _ _ [] _ _
  refine wpList_nil ?_
  obtain rfl:=osi H
  show R143 _ _
  rw [hR143]
  exact ⟨(y125.2 != y17.2),rfl,(hk.al rfl),(hs.pick [(9,9),(7,7),(8,8)] rfl)⟩
 intro a w hR0
 rw [hR143] at hR0
 obtain ⟨u139,rfl,hk,hs⟩:=hR0
 have H:=HL142
 try dsimp only at H
 refine hK137 _ _ ?_
 rcases cond_some H with ⟨c147,H⟩ | ⟨c147,H⟩
 ·have hk:=hk.lit 92 c147 rfl
  refine cnd_true hk rfl rfl <| sr fun _ hK148=>mv hk rfl fun a hk=>nx hK148 <| wp_ret ?_
  obtain rfl:=osi H
  exact fin hk _ [(.bool false)] rfl ⟨rfl,trivial⟩ ⟨rfl,(hs.pick [] rfl).dnil⟩
 have hk:=hk.lit 92 c147 rfl
 refine cnd_false hk rfl rfl <| wp_skip <| hK136 _ _ <| sr fun _ hK149=>mv hk rfl fun a hk=>nx hK149 ?_
 refine sr fun _ hK150=>sln [vS y36.1.Key,vI iS y36.1.Reg.Epoch,vI iS y36.1.Reg.Side,vI iS y36.1.Reg.Count,vI iS y36.1.Reg.Boot,vS y36.1.Reg.Base,vS y36.1.Reg.Tip,vS y36.1.Reg.Root,vL A38 y36.1.Device.Sure.length p39,vL A42 y36.1.Device.Unsure.length p43,.bool y36.1.Up,.bool y36.1.Dead] rfl hk rfl rfl rfl ag30 sz30 (box_cells hs (k:=9) rfl) fun a hk=>mv hk rfl fun a hk=>?_
 have hk:=hk.re 93 (v':=(.agg #[vS y36.1.Key,vI iS y36.1.Reg.Epoch,vI iS y36.1.Reg.Side,vI iS y36.1.Reg.Count,vI iS y36.1.Reg.Boot,vS y36.1.Reg.Base,vS y36.1.Reg.Tip,vS y36.1.Reg.Root,vL A38 y96.2.1.length p39,vL A42 y96.2.2.length p43,.bool y36.1.Up,.bool y36.1.Dead])) rfl (by rw [lh104,lh105])
 obtain ⟨y151,h152,H⟩:=bind_some H
 refine sc rfl en11 hk rfl rfl rfl (laws_heldStore_t _ (⟨y36.1.Key,y36.1.Reg,(⟨y96.2.1,y96.2.2⟩:S_Device),y36.1.Up,y36.1.Dead⟩:S_Store) A38 p39 _ o99.view (hs.hasG (k:=7) rfl) A42 p43 _ o102.view (hs.hasG (k:=8) rfl) 1 _ h152) ?_
 rintro _ w ⟨rfl,hG⟩ a hk
 have hs:=hs.call0 hG
 refine mv hk rfl fun a hk=>nx hK150 <| sq fun _ hK153=>sr fun _ hK154=>mv hk rfl fun a hk=>sv (.bool (decide (y151<0))) hk rfl rfl rfl fun a hk=>nx hK154 ?_
 rcases cond_some H with ⟨c155,H⟩ | ⟨c155,H⟩
 ·have hk:=hk.lit 97 c155 rfl
  refine cnd_true hk rfl rfl <| sr fun _ hK156=>mv hk rfl fun a hk=>nx hK156 <| wp_ret ?_
  obtain rfl:=osi H
  exact fin hk _ [(.bool false)] rfl ⟨rfl,trivial⟩ ⟨rfl,(hs.pick [] rfl).dnil⟩
 have hk:=hk.lit 97 c155 rfl
 refine cnd_false hk rfl rfl <| wp_skip <| hK153 _ _ <| sq fun _ hK157=>sr fun _ hK158=>mv hk rfl fun a hk=>mv hk rfl fun a hk=>sv (.bool (y151 != y96.1)) hk rfl rfl rfl fun a hk=>nx hK158 ?_
 have hs:=hs.pick [] rfl
 rcases cond_some H with ⟨c159,H⟩ | ⟨c159,H⟩
 ·have hk:=hk.lit 100 c159 rfl
  refine cnd_true hk rfl rfl <| sr fun _ hK160=>mv hk rfl fun a hk=>nx hK160 <| wp_ret ?_
  obtain rfl:=osi H
  exact fin hk _ [(.bool false)] rfl ⟨rfl,trivial⟩ ⟨rfl,(hs.pick [] rfl).dnil⟩
 have hk:=hk.lit 100 c159 rfl
 refine cnd_false hk rfl rfl <| wp_skip <| hK157 _ _ <| sr fun _ hK161=>mv hk rfl fun a hk=>nx hK161 ?_
 refine wp_ret ?_
 obtain rfl:=osi H
 exact fin hk _ [(.bool true)] rfl ⟨rfl,trivial⟩ ⟨rfl,(hs.pick [] rfl).dnil⟩
end Go.Proofs.YteklgnhfgdhdiaaGreat
