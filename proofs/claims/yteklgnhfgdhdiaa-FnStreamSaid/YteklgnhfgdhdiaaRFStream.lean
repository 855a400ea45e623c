/- FnStream: for every input the law returns true, and its arguments read as before. No conditions but the row's own. -/
import Derived.Test.YteklgnhfgdhdiaaPFStream
namespace Go.Proofs.Yteklgnhfgdhdiaa.RFStream
open Go Go.Z Go.Proofs Go.MuLone Go.ChangeShapes Go.WideShapes Go.ChangeAt Go.RowKit
set_option linter.unusedVariables false
set_option linter.unusedSimpArgs false
theorem code_ok (key nonce : ByteArray) (c : Nat) (hk : key.size = 32) (hn : nonce.size = 12) (hc : c ≤ 1000000000) : impl_streamCode.f key nonce (c : Int) = some 0 := by
  unfold impl_streamCode.f
  rw [areShort_eq _ (by simp)]
  have h1 : shortT key = true := decide_eq_true (by omega)
  have h2 : shortT nonce = true := decide_eq_true (by omega)
  have h3 : inB (c : Int) 0 1000000000 = true := inB_iff.2 ⟨by omega, by omega⟩
  simp [h1, h2, hk, hn, within_eq, h3]
theorem chaXor_ok (key nonce : ByteArray) (c : Nat) (t : ByteArray) (hk : key.size = 32) (hn : nonce.size = 12) (hc : c ≤ 1000) (ht : t.size ≤ 65536) : impl_ChaXor.f key nonce (c : Int) t = some (strOfNums (stL key nonce c (bytesOf t)), 0) := by
  unfold impl_ChaXor.f
  have h1 : shortT t = true := decide_eq_true (by omega)
  have hd : IntKind.wrap .i64 (Int.tdiv (w64 ((t.size : Int) - 1)) 64) ≤ 1024 ∧ -1 ≤ IntKind.wrap .i64 (Int.tdiv (w64 ((t.size : Int) - 1)) 64) := by
    rw [w64_id (x := (t.size : Int) - 1) (by omega) (by omega)]
    by_cases z : t.size = 0
    · rw [z]; decide
    · have e : Int.tdiv ((t.size : Int) - 1) 64 = ((t.size : Int) - 1) / 64 := Int.tdiv_eq_ediv_of_nonneg (by omega)
      have : IntKind.wrap .i64 (((t.size : Int) - 1) / 64) = ((t.size : Int) - 1) / 64 := w64_id (by omega) (by omega)
      rw [e, this]; omega
  rw [areShort1, h1]
  simp only [Option.bind_some, Bool.not_true, cond_false]
  rw [code_ok key nonce c hk hn (by omega)]
  simp only [Option.bind_some]
  rw [w64_id (by omega) (by omega), decide_eq_false (by omega), xor_i key nonce c t hk hn (by omega) (by omega)]
  rfl
theorem spec_ok (key nonce : ByteArray) (c : Nat) (t : ByteArray) (hk : key.size = 32) (hn : nonce.size = 12) (hc : c ≤ 1000) (ht : t.size ≤ 65536) : spec_ChaXor.f key nonce (c : Int) t = some (strOfNums (stL key nonce c (bytesOf t)), 0) := by
  unfold spec_ChaXor.f spec_l02Ask.f
  have h3 : inB (c : Int) 0 1000000000 = true := inB_iff.2 ⟨by omega, by omega⟩
  rw [decide_eq_false (by omega), decide_eq_false (by omega), decide_eq_false (by omega), hk, hn, l01In_eq, h3]
  simp only [cond_false, Option.bind_some]
  rw [xor_s key nonce c t hk hn (by omega) (by omega)]
  rfl
theorem quarterRound_ok (a b c d : Nat) (ha : a < 4294967296) (hb : b < 4294967296) (hc : c < 4294967296) (hd : d < 4294967296) :
    impl_QuarterRound.f [(a : Int), (b : Int), (c : Int), (d : Int)] = some ([((qr a b c d).1 : Int), ((qr a b c d).2.1 : Int), ((qr a b c d).2.2.1 : Int), ((qr a b c d).2.2.2 : Int)], 0) ∧
    spec_QuarterRound.f [(a : Int), (b : Int), (c : Int), (d : Int)] = some ([((qr a b c d).1 : Int), ((qr a b c d).2.1 : Int), ((qr a b c d).2.2.1 : Int), ((qr a b c d).2.2.2 : Int)], 0) := by
  obtain ⟨q1, q2, q3, q4⟩ := qr_lt (a := a) (c := c) hb hd
  have wi : ∀ x : Nat, x < 4294967296 → IntKind.wrap .i64 (x : Int) = (x : Int) := fun x hx => w64_id (by omega) (by omega)
  have g : ∀ x : Nat, x < 4294967296 → inB (x : Int) 0 4294967295 = true := fun x hx => inB_iff.2 ⟨by omega, by omega⟩
  constructor
  · unfold impl_QuarterRound.f
    rw [all_impl_areAll_int [(a : Int), (b : Int), (c : Int), (d : Int)] impl_isWord.f (fun x => inB x 0 4294967295) (by simp) (fun x _ => by unfold impl_isWord.f; rw [within_eq]; rfl)]
    have e : [(a : Int), (b : Int), (c : Int), (d : Int)].all (fun x => inB x 0 4294967295) = true := by simp [g a ha, g b hb, g c hc, g d hd]
    rw [e, Option.bind_some]
    simp only [Bool.not_true, cond_false]
    rw [if_pos (by omega), if_pos (by omega), if_pos (by omega), if_pos (by omega)]
    have g0 : [(a : Int), (b : Int), (c : Int), (d : Int)].getD (0 : Int).toNat 0 = (a : Int) := rfl
    have g1 : [(a : Int), (b : Int), (c : Int), (d : Int)].getD (1 : Int).toNat 0 = (b : Int) := rfl
    have g2 : [(a : Int), (b : Int), (c : Int), (d : Int)].getD (2 : Int).toNat 0 = (c : Int) := rfl
    have g3 : [(a : Int), (b : Int), (c : Int), (d : Int)].getD (3 : Int).toNat 0 = (d : Int) := rfl
    rw [g0, g1, g2, g3, wu32 a ha, wu32 b hb, wu32 c hc, wu32 d hd, quarter_i a b c d hb hd, Option.bind_some]
    simp only
    rw [wi _ q1, wi _ q2, wi _ q3, wi _ q4]
  · unfold spec_QuarterRound.f
    have st : ∀ k : Nat, k < 4 → spec_QuarterRound.s0 [(a : Int), (b : Int), (c : Int), (d : Int)] (k : Int) = some (.inl ((k + 1 : Nat) : Int)) := fun k hk => by
      have hg : inB ([(a : Int), (b : Int), (c : Int), (d : Int)].getD k 0) 0 4294967295 = true := by
        have : k = 0 ∨ k = 1 ∨ k = 2 ∨ k = 3 := by omega
        rcases this with rfl | rfl | rfl | rfl
        · exact g a ha
        · exact g b hb
        · exact g c hc
        · exact g d hd
      unfold spec_QuarterRound.s0
      rw [decide_eq_true (show (k : Int) < 4 by omega), if_pos (by omega), l01In_eq, Int.toNat_natCast, hg, w64_id (by omega) (by omega)]
      rfl
    have := loopO_run (step := fun s => spec_QuarterRound.s0 [(a : Int), (b : Int), (c : Int), (d : Int)] s) (fun k => (k : Int)) 4 (r := .out ()) st rfl
    have this : loopO (fun s => spec_QuarterRound.s0 [(a : Int), (b : Int), (c : Int), (d : Int)] s) 0 = some (.out ()) := this
    rw [this, Option.bind_some]
    simp only
    rw [if_pos (by omega), if_pos (by omega), if_pos (by omega), if_pos (by omega)]
    have g0 : [(a : Int), (b : Int), (c : Int), (d : Int)].getD (0 : Int).toNat 0 = (a : Int) := rfl
    have g1 : [(a : Int), (b : Int), (c : Int), (d : Int)].getD (1 : Int).toNat 0 = (b : Int) := rfl
    have g2 : [(a : Int), (b : Int), (c : Int), (d : Int)].getD (2 : Int).toNat 0 = (c : Int) := rfl
    have g3 : [(a : Int), (b : Int), (c : Int), (d : Int)].getD (3 : Int).toNat 0 = (d : Int) := rfl
    rw [g0, g1, g2, g3, quarter_s a b c d ha hb hc hd, Option.bind_some]
theorem pure_laws_FnStream (x0 : List Int) (x1 : List Int) (g0 : (x0.length ≤ maxLen ∧ ∀ y : Int, y ∈ x0 → ((Lit.int .u8 y).wf = true))) (g1 : (x1.length ≤ maxLen ∧ ∀ y : Int, y ∈ x1 → ((Lit.int .u8 y).wf = true))) : laws_FnStream.f x0 x1 = some true := by
  unfold laws_FnStream.f
  by_cases c0 : (x0.length : Int) > 1048576
  · rw [decide_eq_true c0]; rfl
  by_cases c1 : (x1.length : Int) > 1048576
  · rw [decide_eq_true c1, decide_eq_false c0]; rfl
  rw [decide_eq_false c0, decide_eq_false c1]
  simp only [cond_false, Option.bind_some]
  have hb0 : isB x0 := fun b hb => wf_u8 (g0.2 b hb)
  have hb1 : isB x1 := fun b hb => wf_u8 (g1.2 b hb)
  obtain ⟨key, eK, hk⟩ := keyOf_some x0 (by omega) hb0
  obtain ⟨nonce, eN, hn⟩ := nonceDrawn_some x1 (by omega) hb1
  obtain ⟨v, eV, v0, v1⟩ := at_some x0 0 80 (by omega) hb0 (by omega) (by omega)
  obtain ⟨t, eT, hT⟩ := bytesOf_some x1 (70 + v) (by omega) hb1 (by omega)
  obtain ⟨a, ea, a0, a1⟩ := at_some x0 1 9 (by omega) hb0 (by omega) (by omega)
  obtain ⟨b, eb, b0, b1⟩ := at_some x0 2 9 (by omega) hb0 (by omega) (by omega)
  obtain ⟨c, ec, q0, q1⟩ := at_some x1 3 9 (by omega) hb1 (by omega) (by omega)
  obtain ⟨d, ed, d0, d1⟩ := at_some x1 4 9 (by omega) hb1 (by omega) (by omega)
  obtain ⟨a, rfl⟩ := Int.eq_ofNat_of_zero_le a0
  obtain ⟨b, rfl⟩ := Int.eq_ofNat_of_zero_le b0
  obtain ⟨c, rfl⟩ := Int.eq_ofNat_of_zero_le q0
  obtain ⟨d, rfl⟩ := Int.eq_ofNat_of_zero_le d0
  have h3 : (3 : Int) = ((3 : Nat) : Int) := rfl
  have h4 : (4 : Int) = ((4 : Nat) : Int) := rfl
  have hl := bytesOf_len t
  have hz : (strOfNums (stL key nonce 3 (bytesOf t))).size = t.size := by rw [strOfNums_size, stL_len, hl]
  have eX := chaXor_ok key nonce 3 t hk hn (by omega) (by omega)
  have eS := spec_ok key nonce 3 t hk hn (by omega) (by omega)
  have eB := chaXor_ok key nonce 3 (strOfNums (stL key nonce 3 (bytesOf t))) hk hn (by omega) (by omega)
  rw [bytes_str (stL_isB _ _ _ _), stL_twice _ _ _ _ (bytesOf_isB t)] at eB
  have eBt : strOfNums (bytesOf t) = t := ba_ext (bytes_str (bytesOf_isB t))
  rw [eBt] at eB
  have hse : (t.extract 64 t.size).size = t.size - 64 := by rw [ByteArray.size_extract]; omega
  have eL := chaXor_ok key nonce 4 (t.extract 64 t.size) hk hn (by omega) (by omega)
  have eC : impl_ChaBlock.f key nonce ((3 : Nat) : Int) = some (strOfNums (blkL key nonce ((3 : Nat) : Int)), 0) := by
    unfold impl_ChaBlock.f
    rw [code_ok key nonce 3 hk hn (by omega), Option.bind_some, stream_eq key nonce _ hk hn]; rfl
  have hbs : (strOfNums (blkL key nonce ((3 : Nat) : Int))).size = 64 := by rw [strOfNums_size, blkL_len]
  have ht0 : (t.extract 0 64).size = 64 := by rw [ByteArray.size_extract]; omega
  have eO : impl_XorOf.f (strOfNums (blkL key nonce ((3 : Nat) : Int))) (t.extract 0 64) = some (strOfNums (xorL (blkL key nonce ((3 : Nat) : Int)) (bytesOf (t.extract 0 64))), 0) := by
    unfold impl_XorOf.f
    have s1 : shortT (strOfNums (blkL key nonce ((3 : Nat) : Int))) = true := decide_eq_true (by omega)
    have s2 : shortT (t.extract 0 64) = true := decide_eq_true (by omega)
    have hall : [strOfNums (blkL key nonce ((3 : Nat) : Int)), t.extract 0 64].all shortT = true := by rw [List.all_cons, List.all_cons, s1, s2]; rfl
    rw [areShort_eq _ (by simp), hall, Option.bind_some, xor_eq _ _ (by omega) (by omega), bytes_str (blkL_isB _ _ _), hbs, ht0]
    rfl
  -- what is told of the parts
  have hB := bytesOf_isB t
  have p1 : (strOfNums (stL key nonce 3 (bytesOf t))).extract 64 (strOfNums (stL key nonce 3 (bytesOf t))).size = strOfNums (stL key nonce 4 (bytesOf (t.extract 64 t.size))) := by
    apply ba_ext
    rw [bytesOf_extract, bytes_str (stL_isB _ _ _ _), bytes_str (stL_isB _ _ _ _), hz]
    unfold stL
    rw [bytesOf_len (t.extract 64 t.size), hse, hl, ← List.map_drop, ← List.map_take]
    apply List.ext_getElem (by simp [hl])
    intro i h1 h2
    have hi : i < t.size - 64 := by simpa [hl] using h2
    simp only [List.getElem_map, List.getElem_take, List.getElem_drop, List.getElem_range]
    have g : (bytesOf (t.extract 64 t.size)).getD i 0 = (bytesOf t).getD (64 + i) 0 := by
      rw [bytesOf_extract, List.getD_eq_getElem?_getD, List.getD_eq_getElem?_getD, List.getElem?_take, if_pos hi, List.getElem?_drop]
    unfold stF ks
    rw [g, show 3 + (64 + i) / 64 = 4 + i / 64 by omega, show (64 + i) % 64 = i % 64 by omega]
  have p2 : (strOfNums (stL key nonce 3 (bytesOf t))).extract 0 64 = strOfNums (xorL (blkL key nonce ((3 : Nat) : Int)) (bytesOf (t.extract 0 64))) := by
    apply ba_ext
    rw [bytesOf_extract, bytes_str (stL_isB _ _ _ _), bytes_str (xorL_isB _ _)]
    unfold stL xorL
    rw [blkL_len, ← List.map_drop, ← List.map_take]
    apply List.ext_getElem (by simp [hl]; omega)
    intro i h1 h2
    have hi : i < 64 := by simpa using h2
    simp only [List.getElem_map, List.getElem_take, List.getElem_drop, List.getElem_range]
    have g : (bytesOf (t.extract 0 64)).getD i 0 = (bytesOf t).getD (0 + i) 0 := by
      rw [bytesOf_extract, List.getD_eq_getElem?_getD, List.getD_eq_getElem?_getD, List.getElem?_take, if_pos (by omega), List.getElem?_drop]
    unfold stF ks
    rw [g, show (3 + (0 + i) / 64) = 3 by omega, show (0 + i) % 64 = i by omega, x8_comm]
  obtain ⟨eQ, eR⟩ := quarterRound_ok a b c d (by omega) (by omega) (by omega) (by omega)
  have z64 : (64 : Int).toNat = 64 := rfl
  rw [h3.symm] at eX eS eB eC eO p2
  rw [h4.symm] at eL
  simp only [eK, eN, eV, Option.bind_some]
  rw [w64_id (by omega) (by omega), eT, Option.bind_some]
  simp only [eX, eS, eB, Option.bind_some]
  rw [if_pos (by omega), z64, eL, Option.bind_some]
  simp only [eC, Option.bind_some]
  rw [if_pos (by omega), eO, Option.bind_some]
  simp only [ea, eb, ec, ed, Option.bind_some]
  simp only [eQ, eR, Option.bind_some]
  rw [if_pos (by omega), p1, p2]
  simp only [bs_self, beq_self_eq_true, cond_true]
  rw [if_pos (by omega)]
  rfl
theorem cz5 : Try.prog.cellsOf 5 = 1 := by kernel_rfl
theorem own : ownKnob Try.prog.godebug = none := by kernel_rfl
theorem laidOut : laidOutB Try.prog = true := by kernel_rfl
set_option maxRecDepth 100000 in
set_option maxHeartbeats 4000000 in
theorem lifted (os : Os) (started : os.Started) (H : Type) (enc : TypeId × Value → H) :
    ReturnsInHanded {} Try.checked os 5 .any (Rows.fnStreamSpec.pre6 enc Try.prog Try.f5 Rows.fnStreamRow.domain false) (Rows.fnStreamSpec.post enc Try.prog Try.f5 false true false false) := by
  refine returnsInHanded_of_change_sized (C := Try.checked) own started (by kernel_rfl) Try.func5
    (ChangeSpec.witness6 (enc := enc) (C := Try.checked) false ⟨#[], #[.slice none 0 0, .slice none 0 0], []⟩ 8 (by kernel_rfl) (by kernel_rfl) (by kernel_rfl) (by kernel_rfl)) ?_
  intro W base args ds gs before hval0 hW hcnd hsz0 _
  have hval : ∀ (j : Nat) t v, Try.f5.params[j]? = some t → args[j]? = some v → Value.okWide Try.prog W .any base t v := hval0
  have hW' := hW
  obtain ⟨p, q, hA0, hV, rfl, hfz, hnd⟩ := hW
  have hA : DataW.TrodAll enc Try.prog W 0 (fun _ => true) true Try.f5.params.toList args.toList ds p := hA0
  rw [Try.params5] at hA hval
  obtain ⟨v0, vs0, d0, ds0, p0, q0, hargs, rfl, rfl, h0, r0⟩ := trodAll_cons hA
  obtain ⟨v1, vs1, d1, ds1, p1, q1, rfl, rfl, rfl, h1, r1⟩ := trodAll_cons r0
  obtain ⟨rfl, rfl, rfl⟩ := trodAll_nil r1
  obtain rfl : args = #[v0, v1] := by cases args; simp_all
  obtain ⟨rfl, rfl⟩ := trodVars_none hV
  have k0 := h0
  have lt0 : ∀ x ∈ p0, x.block < W.heap.size := by obtain ⟨m, hm⟩ := k0; exact DataW.trod_lt m _ _ _ hm
  obtain ⟨f0, hf0⟩ := h0
  obtain ⟨y0, hy0, hg0⟩ := (opens_sl Try.underlying22 cz5 (by decide) (opens_int Try.underlying5)) H enc f0 _ _ hf0
  obtain ⟨A0_, p0_, e0, w0_⟩ : ∃ A p, v0 = Value.slice A y0.length p ∧ View (Lay.int .u8) A p y0 (heapC W) := by
    obtain ⟨A, n, c, rfl⟩ := okWide_slice Try.underlying22 (hval 0 22 v0 rfl rfl)
    obtain ⟨v, hv, A, p, rfl, hh⟩ := hy0
    simp only [Value.cells] at hv
    exact ⟨A, p, by simpa using hv, hh⟩
  subst e0
  have k1 := h1
  have lt1 : ∀ x ∈ p1, x.block < W.heap.size := by obtain ⟨m, hm⟩ := k1; exact DataW.trod_lt m _ _ _ hm
  obtain ⟨f1, hf1⟩ := h1
  obtain ⟨y1, hy1, hg1⟩ := (opens_sl Try.underlying22 cz5 (by decide) (opens_int Try.underlying5)) H enc f1 _ _ hf1
  obtain ⟨A1_, p1_, e1, w1_⟩ : ∃ A p, v1 = Value.slice A y1.length p ∧ View (Lay.int .u8) A p y1 (heapC W) := by
    obtain ⟨A, n, c, rfl⟩ := okWide_slice Try.underlying22 (hval 1 22 v1 rfl rfl)
    obtain ⟨v, hv, A, p, rfl, hh⟩ := hy1
    simp only [Value.cells] at hv
    exact ⟨A, p, by simpa using hv, hh⟩
  subst e1
  clear hA0 hval0 hsz0
  refine (laws_FnStream_t W A0_ p0_ y0 (heapC W) w0_ (heapC_has W) A1_ p1_ y1 (heapC W) w1_ (heapC_has W) true (pure_laws_FnStream y0 y1 hg0 hg1)).mono fun e W' ⟨v, he, hv, hS⟩ => ?_
  subst he; subst hv
  have bel := hS.below
  exact ⟨_, rfl, _, _, _, [], _, [], hW', trodAll_mk1 (shutB Try.underlying4 _), (trodAll_cons_mk (Below.trod laidOut (by kernel_rfl) (of_decide_eq_true (by kernel_rfl)) k0 bel lt0) (trodAll_cons_mk (Below.trod laidOut (by kernel_rfl) (of_decide_eq_true (by kernel_rfl)) k1 bel lt1) trodAll_mk0)), rfl, bel.frame _, fun h => by cases h⟩
theorem over : Rows.fnStreamRow.holds Try.pinned (OpenSpec.ofChange Rows.fnStreamSpec) :=
  OpenClaim.holds_of_wide 5 Try.f5 rfl rfl rfl rfl rfl rfl rfl ⟨rfl, rfl, rfl, rfl, rfl⟩ rfl rfl rfl rfl rfl (by kernel_rfl) Try.func5 (by kernel_rfl)
    (of_decide_eq_true (by kernel_rfl)) (by unfold Func.isWrapper; first | (rw [if_pos (by decide +kernel)]; kernel_rfl) | (rw [if_neg (by decide +kernel)]; exact ⟨rfl, rfl⟩))
    (fun os started H enc _ => lifted os started H enc)
theorem fnStream_holds : Rows.FnStreamSaid := over
end Go.Proofs.Yteklgnhfgdhdiaa.RFStream
