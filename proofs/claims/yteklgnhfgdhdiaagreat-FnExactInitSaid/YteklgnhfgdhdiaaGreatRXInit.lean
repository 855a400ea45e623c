/- FnExactInit: for every input the law returns true, and its arguments read as before. No conditions but the row's own. -/
import Derived.Test.YteklgnhfgdhdiaaGreatPXInit
namespace Go.Proofs.YteklgnhfgdhdiaaGreat.RXInit
open Go Go.Z Go.Proofs Go.MuLone Go.ChangeShapes Go.WideShapes Go.ChangeAt Go.RowKit
set_option linter.unusedVariables false
set_option linter.unusedSimpArgs false
def encE (x1:List Int):S_Enc:=⟨List.replicate 11 0,⟨x1,[],List.replicate 15 []⟩⟩
theorem newEnc_both (x1:List Int) (h12:x1.length=12) (ha:x1.all (fun x=>inB x 0 7)=true):spec_NewEnc.f x1=some (encE x1,0)∧impl_NewEnc.f x1=some (encE x1,0):=by
  unfold spec_NewEnc.f impl_NewEnc.f spec_NewOram.f impl_NewOram.f impl_leavesOf.f spec_l08New.f slices_Clone_int_int.f
  rw [decide_eq_false (show ¬ (x1.length:Int)>4096 by omega),show ((x1.length:Int) != 12)=false by rw [h12];rfl]
  simp only [cond_false,l08Leaves_eq x1 (by omega),all_impl_areAll_int x1 impl_isLeaf.f (fun x=>inB x 0 7) (by omega) (fun x _=>isLeaf_eq x),Option.bind_some,ha,Bool.not_true]
  rw [if_pos (show ([]:List Int).length+x1.length≤1073741824 by simp;omega),if_pos (show x1.length≤1073741824 by omega)]
  exact ⟨rfl,rfl⟩
def bucketB:ByteArray:=strOfNums (textL ([(0:Int)]++List.replicate 6 0))
theorem bucket_both:impl_bucketText.f []=some bucketB∧spec_l12Bucket.f []=some bucketB:=by
  have h:=textOf_eq [(0:Int)] 7 (by decide) (by decide)
  have hs:=l12Bucket_eq [] (by decide)
  constructor
  · unfold impl_bucketText.f
    rw [blocksInts_eq [] (by decide),Option.bind_some]
    have h:impl_textOf.f ([(([]:List S_Block).length:Int)]++blkInts []) 7=some bucketB:=h
    rw [h];rfl
  · exact hs
theorem bucketB_size:bucketB.size=28:=by unfold bucketB;rw [strOfNums_size,textL_len];rfl
theorem side_both (key:ByteArray) (x1:List Int) (hk:key.size=32) (h12:x1.length=12) :
    ∃ L:List ByteArray,impl_sideSectors.f key 0 (encE x1) [] 0=some L∧spec_l13Side.f key 0 0 (encE x1) []=some L∧L.length=16∧∀ x∈L,x.size≤1000:=by
  have hst:=stateText_eq (encE x1) [] h12 (by show (0:Nat)≤12;omega) (by show (List.replicate 11 (0:Int)).length=11;simp) (by decide) (by simp)
  have hss:=l12State_eq (encE x1) [] h12 (by show (0:Nat)≤12;omega) (by show (List.replicate 11 (0:Int)).length=11;simp) (by decide) (by simp)
  obtain ⟨T,hT⟩:∃ T,T=strOfNums (textL (stateL (encE x1) []++List.replicate (140-(stateL (encE x1) []).length) 0)):=⟨_,rfl⟩
  have hsl:(stateL (encE x1) []).length≤140:=by
    unfold stateL
    simp [encE,blkInts,resInts,h12]
  have hTz:T.size=560:=by rw [hT,strOfNums_size,textL_len,List.length_append,List.length_replicate];omega
  rw [← hT] at hst hss
  obtain ⟨S0,s1,s2,s3⟩:=sealed_both key T 1 0 0 hk (by omega)
  have hb:=bucketB_size
  obtain ⟨F,hF⟩:∃ F:Nat→ByteArray,∀ k,impl_sealed.f key 2 ((1+k:Nat):Int) 0 bucketB=some (F k)∧spec_l06Seal.f key 2 ((1+k:Nat):Int) 0 bucketB=some (F k)∧(F k).size=44:=by
    refine ⟨fun k=>(impl_sealed.f key 2 ((1+k:Nat):Int) 0 bucketB).getD ByteArray.empty,fun k=>?_⟩
    obtain ⟨s,a1,a2,a3⟩:=sealed_both key bucketB 2 ((1+k:Nat):Int) 0 hk (by omega)
    show impl_sealed.f key 2 ((1+k:Nat):Int) 0 bucketB=some ((impl_sealed.f key 2 ((1+k:Nat):Int) 0 bucketB).getD ByteArray.empty)∧spec_l06Seal.f key 2 ((1+k:Nat):Int) 0 bucketB=some ((impl_sealed.f key 2 ((1+k:Nat):Int) 0 bucketB).getD ByteArray.empty)∧((impl_sealed.f key 2 ((1+k:Nat):Int) 0 bucketB).getD ByteArray.empty).size=44
    rw [a1]
    exact ⟨rfl,a2,by show s.size=44;omega⟩
  have w0:w64 (16*0)=0:=rfl
  have wk:∀ k:Nat,k<15→w64 ((w64 ((0:Int)+1))+(k:Int))=((1+k:Nat):Int):=fun k hk=>by
    have:w64 ((0:Int)+1)=1:=rfl
    rw [this,w64_id (by omega) (by omega)];omega
  have hbk:(encE x1).Oram.Buckets=List.replicate 15 []:=rfl
  have hbg:∀ k:Nat,(List.replicate 15 ([]:List S_Block)).getD k []=[]:=fun k=>by
    rw [List.getD_eq_getElem?_getD,List.getElem?_replicate];split <;> rfl
  refine ⟨[S0]++(List.range 15).map F,?_,?_,by simp,?_⟩
  · have:=loopO_run (step:=fun s:List ByteArray×Int=>impl_sideSectors.s0 key 0 (encE x1) 0 s.1 s.2) (fun k=>([S0]++(List.range k).map F,(k:Int))) 15 (r:=.out ([S0]++(List.range 15).map F)) (fun k hk=>by
      simp only [impl_sideSectors.s0]
      rw [hbk,List.length_replicate,decide_eq_true (show (k:Int)<((15:Nat):Int) by omega),cond_true,if_pos (by omega),Int.toNat_natCast,hbg,bucket_both.1,Option.bind_some,w0,wk k hk,(hF k).1,Option.bind_some,if_pos (by simp;omega),w64_id (x:=(k:Int)+1) (by omega) (by omega),List.range_succ,List.map_append,List.append_assoc]
      rfl) rfl
    have this:loopO (fun s:List ByteArray×Int=>impl_sideSectors.s0 key 0 (encE x1) 0 s.1 s.2) ([S0],0)=some (.out ([S0]++(List.range 15).map F)):=this
    unfold impl_sideSectors.f
    rw [hst,Option.bind_some,w0,s1,Option.bind_some,this];rfl
  · have:=loopO_run (step:=fun s:List ByteArray×Int=>spec_l13Side.s0 key 0 0 (encE x1) s.1 s.2) (fun k=>([S0]++(List.range k).map F,(k:Int))) 15 (r:=.out ([S0]++(List.range 15).map F)) (fun k hk=>by
      simp only [spec_l13Side.s0]
      rw [hbk,List.length_replicate,decide_eq_true (show (k:Int)<15 by omega),cond_true,if_pos (by omega),Int.toNat_natCast,hbg,bucket_both.2,Option.bind_some,w0,wk k hk,(hF k).2.1,Option.bind_some,if_pos (by simp;omega),w64_id (x:=(k:Int)+1) (by omega) (by omega),List.range_succ,List.map_append,List.append_assoc]
      rfl) rfl
    have this:loopO (fun s:List ByteArray×Int=>spec_l13Side.s0 key 0 0 (encE x1) s.1 s.2) ([S0],0)=some (.out ([S0]++(List.range 15).map F)):=this
    unfold spec_l13Side.f
    rw [hss,Option.bind_some,w0,s2,Option.bind_some,this];rfl
  · intro x hx
    rcases List.mem_append.1 hx with h | h
    · rw [List.mem_singleton.1 h];omega
    · obtain ⟨k,_,rfl⟩:=List.mem_map.1 h
      have:=(hF k).2.2;omega
def dev0:List ByteArray:=List.replicate 40 ByteArray.empty
def ios (L:List ByteArray) (k:Nat):List S_Io:=(List.range k).map fun i:Nat=>⟨(i:Int),L.getD i ByteArray.empty⟩
theorem lay_s (L:List ByteArray) (h:L.length=16):spec_l13Lay.f ⟨dev0,[]⟩ 0 L=some ⟨dev0,ios L 16⟩:=by
  have:=loopO_run (step:=fun s:Int×List ByteArray×List S_Io=>spec_l13Lay.s0 0 L s.1 s.2.1 s.2.2) (fun k=>((k:Int),dev0,ios L k)) 16 (r:=.out (dev0,ios L 16)) (fun k hk=>by
    have w0:w64 ((w64 (16*0))+(k:Int))=(k:Int):=by
      have:w64 (16*0)=0:=rfl
      rw [this,w64_id (by omega) (by omega)];omega
    have hl:(ios L k).length=k:=by simp [ios]
    simp only [spec_l13Lay.s0,spec_l05Write.f]
    rw [decide_eq_true (show (k:Int)<(L.length:Int) by omega),cond_true,if_pos (by omega),w0,Int.toNat_natCast,if_pos (by show 0+(ios L k).length≤_;omega),if_pos (by simp [hl];omega),Option.bind_some,w64_id (x:=(k:Int)+1) (by omega) (by omega),List.nil_append]
    have e:ios L k++[(⟨(k:Int),L.getD k ByteArray.empty⟩:S_Io)]=ios L (k+1):=by simp [ios,List.range_succ]
    rw [e];rfl) (by
    simp only [spec_l13Lay.s0]
    rw [decide_eq_false (by omega)];rfl)
  have this:loopO (fun s:Int×List ByteArray×List S_Io=>spec_l13Lay.s0 0 L s.1 s.2.1 s.2.2) (0,dev0,[])=some (.out (dev0,ios L 16)):=this
  unfold spec_l13Lay.f
  simp only
  rw [this];rfl
theorem set_step (L D:List ByteArray) (k:Nat) (hk:k<L.length) (hD:L.length≤D.length):(L.take k++D.drop k).set k (L.getD k ByteArray.empty)=L.take (k+1)++D.drop (k+1):=by
  have ht:(L.take k).length=k:=by rw [List.length_take];omega
  rw [List.set_append_right _ _ (by omega),ht,Nat.sub_self,List.drop_eq_getElem_cons (show k<D.length by omega),List.set_cons_zero,getD_lt hk,List.take_succ_eq_append_getElem hk,List.append_assoc]
  rfl
theorem sync_s (L:List ByteArray) (h:L.length=16):spec_l05Sync.f ⟨dev0,ios L 16⟩=some ⟨L++dev0.drop 16,[]⟩:=by
  have hd:dev0.length=40:=by simp [dev0]
  have hl:(ios L 16).length=16:=by simp [ios]
  have hg:∀ k:Nat,k<16→(ios L 16).getD k z_Io=⟨(k:Int),L.getD k ByteArray.empty⟩:=fun k hk=>by
    rw [getD_lt (by omega)];simp [ios]
  have:=loopO_run (step:=fun s:Int×List ByteArray=>spec_l05Sync.s0 ⟨dev0,ios L 16⟩ s.1 s.2) (fun k=>((k:Int),L.take k++dev0.drop k)) 16 (r:=.out (L.take 16++dev0.drop 16)) (fun k hk=>by
    simp only [spec_l05Sync.s0]
    rw [hl,decide_eq_true (show (k:Int)<((16:Nat):Int) by omega),cond_true,if_pos (by omega),if_pos (by omega),Int.toNat_natCast,hg k hk]
    simp only [List.nil_append]
    rw [if_pos (by omega),Int.toNat_natCast,set_step L dev0 k (by omega) (by omega),w64_id (x:=(k:Int)+1) (by omega) (by omega)]
    rfl) (by
    simp only [spec_l05Sync.s0]
    rw [hl,decide_eq_false (by omega)];rfl)
  have e:L.take 16=L:=List.take_of_length_le (by omega)
  rw [e] at this
  have this:loopO (fun s:Int×List ByteArray=>spec_l05Sync.s0 ⟨dev0,ios L 16⟩ s.1 s.2) (0,([]:List ByteArray)++dev0)=some (.out (L++dev0.drop 16)):=this
  unfold spec_l05Sync.f
  simp only
  rw [if_pos (by show 0+dev0.length≤_;omega),this];rfl
theorem ex_Init (x0:ByteArray) (x1:List Int) (g0:(x0.size≤maxLen)) (h0:x0.size≤1048576) (g1:(x1.length≤maxLen∧∀ y:Int,y∈x1→((Lit.int .i64 y).wf=true))) (h1:x1.length≤1048576):∃ r,spec_Init.f x0 x1=some r∧impl_Init.f x0 x1=some r∧(((r.1.Device.Sure.length≤1048576)∧(r.1.Device.Unsure.length≤1048576))):=by
  unfold spec_Init.f impl_Init.f
  rw [areShort1]
  rcases Nat.lt_or_ge 65536 x0.size with c0 | c0
  · rw [show shortT x0=false from decide_eq_false (by omega),decide_eq_true (show (x0.size:Int)>65536 by omega)]
    exact ⟨_,rfl,rfl,by simp⟩
  rw [show shortT x0=true from decide_eq_true (by omega),decide_eq_false (show ¬ (x0.size:Int)>65536 by omega)]
  simp only [Bool.not_true,cond_false,Option.bind_some]
  cases c1:decide ((x1.length:Int)>4096)
  case true=>exact ⟨_,rfl,rfl,by simp⟩
  simp only [cond_false]
  cases c2:((x0.size:Int) != 32)
  case true=>exact ⟨_,rfl,rfl,by simp⟩
  have hk:x0.size=32:=by
    have:(x0.size:Int)=32:=by simpa using c2
    omega
  simp only [cond_false,Option.bind_some]
  cases c3:((x1.length:Int) != 12)
  case true =>
    unfold impl_NewEnc.f impl_NewOram.f impl_leavesOf.f
    rw [c1,c3]
    exact ⟨_,rfl,rfl,by simp⟩
  have h12:x1.length=12:=by
    have:(x1.length:Int)=12:=by simpa using c3
    omega
  simp only [cond_false,l08Leaves_eq x1 (by omega),Option.bind_some]
  cases ha:x1.all (fun x=>inB x 0 7)
  case false =>
    unfold impl_NewEnc.f impl_NewOram.f impl_leavesOf.f
    rw [c1,c3]
    simp only [cond_false,all_impl_areAll_int x1 impl_isLeaf.f (fun x=>inB x 0 7) (by omega) (fun x _=>isLeaf_eq x),Option.bind_some,ha]
    exact ⟨_,rfl,rfl,by simp⟩
  obtain ⟨e1,e2⟩:=newEnc_both x1 h12 ha
  obtain ⟨L,l1,l2,l3,l4⟩:=side_both x0 x1 hk h12
  have hLs:∀ i,(L.getD i ByteArray.empty).size≤100000:=fun i=>by
    rw [List.getD_eq_getElem?_getD]
    rcases hh:L[i]? with _ | x
    · show (0:Nat)≤100000;omega
    · have:=l4 x (List.mem_of_getElem? hh)
      show x.size≤100000;omega
  obtain ⟨d1,d2⟩:=Sha.digest_eq (⟨#[98,101,103,105,110]⟩:ByteArray) (by decide)
  have n1:spec_NewDevice.f=some ⟨dev0,[]⟩:=rfl
  have n2:impl_NewDevice.f=some ⟨dev0,[]⟩:=rfl
  have hd:dev0.length=40:=by simp [dev0]
  have r1:=root_i L l3 hLs
  have r2:=root_s L l3 hLs
  have q1:=lay_s L l3
  have q2:=sync_s L l3
  unfold spec_l13Init.f impl_firstTip.f
  rw [e1,e2]
  simp only [Bool.not_true,cond_false,Option.bind_some,bne_self_eq_false]
  rw [l2,Option.bind_some,d2,Option.bind_some,r2,Option.bind_some,n1,Option.bind_some,q1,Option.bind_some,q2]
  simp only [Option.bind_some,n2,l1,d1,r1]
  rw [if_pos (by omega),l3]
  refine ⟨_,rfl,rfl,?_⟩
  simp [hd,l3]

theorem pure_laws_FnExactInit (x0:ByteArray) (x1:List Int) (g0:(x0.size≤maxLen)) (g1:(x1.length≤maxLen∧∀ y:Int,y∈x1→((Lit.int .i64 y).wf=true))):laws_FnExactInit.f x0 x1=some true:=by
  simp only [laws_FnExactInit.f,Option.bind_some]
  by_cases c0:(x0.size:Int)>1048576
  · rw [decide_eq_true c0];rfl
  rw [decide_eq_false c0];simp only [cond_false]
  have h0:x0.size≤1048576:=by omega
  by_cases c1:(x1.length:Int)>1048576
  · rw [decide_eq_true c1];rfl
  rw [decide_eq_false c1];simp only [cond_false]
  have h1:x1.length≤1048576:=by omega
  obtain ⟨r,hs,hi,hl⟩:=ex_Init x0 x1 g0 h0 g1 h1
  obtain ⟨⟨r0_Key,r0_Reg,⟨r0_Device_Sure,r0_Device_Unsure⟩,r0_Up,r0_Dead⟩,r1⟩:=r
  obtain ⟨k1,a1_0,ek1,pk1,qk1,_,_⟩:=mk_laws_markIntS x1 1 (by omega) (by omega) h1
  obtain ⟨m_0,b0_0,b0_1,em0,pm0,qm0,rm0⟩:=mk_laws_markStore (⟨r0_Key,r0_Reg,(⟨r0_Device_Sure,r0_Device_Unsure⟩:S_Device),r0_Up,r0_Dead⟩:S_Store) 1 (by omega) (by omega) hl
  have hh0:=rm0 (⟨r0_Key,r0_Reg,(⟨b0_0,b0_1⟩:S_Device),r0_Up,r0_Dead⟩:S_Store) rfl rfl
  simp only [id_laws_toIntS x1 h1,reflL_laws_eqIntS x1 h1,reflL_laws_eqStore (⟨r0_Key,r0_Reg,(⟨r0_Device_Sure,r0_Device_Unsure⟩:S_Device),r0_Up,r0_Dead⟩:S_Store) hl,ek1,hh0,em0,hs,hi,decide_eq_false (show ¬ k1<0 by omega),decide_eq_false (show ¬ m_0<0 by omega),Option.bind_some,bne_self_eq_false,bs_self,beq_self_eq_true,Bool.not_true,cond_false,cond_true]
theorem cz3:Tryz.prog.cellsOf 3=1:=by kernel_rfl
theorem own:ownKnob Tryz.prog.godebug=none:=by kernel_rfl
theorem laidOut:laidOutB Tryz.prog=true:=by kernel_rfl
set_option maxRecDepth 100000 in
set_option maxHeartbeats 4000000 in
theorem lifted (os:Os) (started:os.Started) (H:Type) (enc:TypeId×Value→H) :
    ReturnsInHanded {} Tryz.checked os 3 .any (Rows.fnExactInitSpec.pre6 enc Tryz.prog Tryz.f3 Rows.fnExactInitRow.domain false) (Rows.fnExactInitSpec.post enc Tryz.prog Tryz.f3 false true false false):=by
  refine returnsInHanded_of_change_sized (C:=Tryz.checked) own started (by kernel_rfl) Tryz.func3
    (ChangeSpec.witness6 (enc:=enc) (C:=Tryz.checked) false ⟨#[],#[.string ⟨#[]⟩,.slice none 0 0],[]⟩ 8 (by kernel_rfl) (by kernel_rfl) (by kernel_rfl) (by kernel_rfl)) ?_
  intro W base args ds gs before hval0 hW hcnd hsz0 _
  have hval:∀ (j:Nat) t v,Tryz.f3.params[j]? = some t→args[j]? = some v→Value.okWide Tryz.prog W .any base t v:=hval0
  have hW':=hW
  obtain ⟨p,q,hA0,hV,rfl,hfz,hnd⟩:=hW
  have hA:DataW.TrodAll enc Tryz.prog W 0 (fun _=>true) true Tryz.f3.params.toList args.toList ds p:=hA0
  rw [Tryz.params3] at hA hval
  obtain ⟨v0,vs0,d0,ds0,p0,q0,hargs,rfl,rfl,h0,r0⟩:=trodAll_cons hA
  obtain ⟨v1,vs1,d1,ds1,p1,q1,rfl,rfl,rfl,h1,r1⟩:=trodAll_cons r0
  obtain ⟨rfl,rfl,rfl⟩:=trodAll_nil r1
  obtain rfl:args = #[v0,v1]:=by cases args;simp_all
  obtain ⟨rfl,rfl⟩:=trodVars_none hV
  have k0:=h0
  have lt0:∀ x∈p0,x.block<W.heap.size:=by obtain ⟨m,hm⟩:=k0;exact DataW.trod_lt m _ _ _ hm
  obtain ⟨f0,hf0⟩:=h0
  obtain ⟨y0,hy0,hg0⟩:=(opens_str Tryz.underlying9) H enc f0 _ _ hf0
  obtain rfl:v0 = .string y0:=by
    obtain hv:=(hval 0 9 v0 rfl rfl)
    simp only [Value.okWide,Tryz.underlying9,Cell.okWide] at hv
    cases v0 <;> simp_all [Cell.ok,Value.cells,Lay.int,Lay.bool,Lay.str,Lay.flat]
  have k1:=h1
  have lt1:∀ x∈p1,x.block<W.heap.size:=by obtain ⟨m,hm⟩:=k1;exact DataW.trod_lt m _ _ _ hm
  obtain ⟨f1,hf1⟩:=h1
  obtain ⟨y1,hy1,hg1⟩:=(opens_sl Tryz.underlying22 cz3 (by decide) (opens_int Tryz.underlying3)) H enc f1 _ _ hf1
  obtain ⟨A1_,p1_,e1,w1_⟩:∃ A p,v1=Value.slice A y1.length p∧View (Lay.int .i64) A p y1 (heapC W):=by
    obtain ⟨A,n,c,rfl⟩:=okWide_slice Tryz.underlying22 (hval 1 22 v1 rfl rfl)
    obtain ⟨v,hv,A,p,rfl,hh⟩:=hy1
    simp only [Value.cells] at hv
    exact ⟨A,p,by simpa using hv,hh⟩
  subst e1
  clear hA0 hval0 hsz0
  refine (laws_FnExactInit_t W y0 A1_ p1_ y1 (heapC W) w1_ (heapC_has W) true (pure_laws_FnExactInit y0 y1 hg0 hg1)).mono fun e W' ⟨v,he,hv,hS⟩=>?_
  subst he;subst hv
  have bel:=hS.below
  exact ⟨_,rfl,_,_,_,[],_,[],hW',trodAll_mk1 (shutB Tryz.underlying4 _),(trodAll_cons_mk (Below.trod laidOut (by kernel_rfl) (of_decide_eq_true (by kernel_rfl)) k0 bel lt0) (trodAll_cons_mk (Below.trod laidOut (by kernel_rfl) (of_decide_eq_true (by kernel_rfl)) k1 bel lt1) trodAll_mk0)),rfl,bel.frame _,fun h=>by cases h⟩
theorem over:Rows.fnExactInitRow.holds Tryz.pinned (OpenSpec.ofChange Rows.fnExactInitSpec) :=
  OpenClaim.holds_of_wide 3 Tryz.f3 rfl rfl rfl rfl rfl rfl rfl ⟨rfl,rfl,rfl,rfl,rfl⟩ rfl rfl rfl rfl rfl (by kernel_rfl) Tryz.func3 (by kernel_rfl)
    (of_decide_eq_true (by kernel_rfl)) (by unfold Func.isWrapper;first | (rw [if_pos (by decide +kernel)];kernel_rfl) | (rw [if_neg (by decide +kernel)];exact ⟨rfl,rfl⟩))
    (fun os started H enc _=>lifted os started H enc)
theorem fnExactInit_holds:Rows.FnExactInitSaid:=over
end Go.Proofs.YteklgnhfgdhdiaaGreat.RXInit
