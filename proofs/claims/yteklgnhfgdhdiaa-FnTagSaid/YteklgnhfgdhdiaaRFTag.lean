/- FnTag: for every input the law returns true, and its arguments read as before. No conditions but the row's own. -/
import Derived.Test.YteklgnhfgdhdiaaPFTag
namespace Go.Proofs.Yteklgnhfgdhdiaa.RFTag
open Go Go.Z Go.Proofs Go.MuLone Go.ChangeShapes Go.WideShapes Go.ChangeAt Go.RowKit
set_option linter.unusedVariables false
set_option linter.unusedSimpArgs false
def xb (a b : Int) : Int := IntKind.wrap .u8 ((BitVec.ofInt 8 a ^^^ BitVec.ofInt 8 (IntKind.wrap .u8 b)).toNat : Int)
theorem xb_eq (a b : Int) : xb a b = ((BitVec.ofInt 8 a ^^^ BitVec.ofInt 8 b).toNat : Int) := by
  have h : BitVec.ofInt 8 (IntKind.wrap .u8 b) = BitVec.ofInt 8 b := by
    apply BitVec.eq_of_toInt_eq
    show (BitVec.ofInt 8 (b % 256)).toInt = (BitVec.ofInt 8 b).toInt
    rw [BitVec.toInt_ofInt, BitVec.toInt_ofInt]
    exact Int.emod_bmod b 256
  unfold xb
  rw [h]
  have := (BitVec.ofInt 8 a ^^^ BitVec.ofInt 8 b).isLt
  show ((BitVec.ofInt 8 a ^^^ BitVec.ofInt 8 b).toNat : Int) % 256 = _
  omega
theorem xb_byte (a b : Int) : 0 ≤ xb a b ∧ xb a b ≤ 255 := by
  rw [xb_eq]
  have := (BitVec.ofInt 8 a ^^^ BitVec.ofInt 8 b).isLt
  omega
theorem ofInt_nat (x : BitVec 8) : BitVec.ofInt 8 (x.toNat : Int) = x := by
  apply BitVec.eq_of_toNat_eq
  simp
theorem xb_ne {a b : Int} (h0 : 0 ≤ a) (h1 : a ≤ 255) (hb0 : 1 ≤ b) (hb1 : b ≤ 255) : xb a b ≠ a := by
  intro e
  have h2 := xb_eq a b
  rw [e] at h2
  have h3 : BitVec.ofInt 8 a = BitVec.ofInt 8 a ^^^ BitVec.ofInt 8 b := by
    have := congrArg (BitVec.ofInt 8) h2
    rwa [ofInt_nat] at this
  have h4 : BitVec.ofInt 8 b = 0#8 := by
    have := congrArg (fun x => BitVec.ofInt 8 a ^^^ x) h3
    simp only [BitVec.xor_self, ← BitVec.xor_assoc, BitVec.zero_xor] at this
    exact this.symm
  have := congrArg BitVec.toNat h4
  rw [BitVec.toNat_ofInt] at this
  simp at this
  omega
theorem tagEqual_eq (a b : ByteArray) (ha : a.size ≤ 65536) (hb : b.size ≤ 65536) : impl_TagEqual.f a b = some (decide (a = b)) := by
  unfold impl_TagEqual.f
  have h1 : shortT a = true := decide_eq_true (by omega)
  have h2 : shortT b = true := decide_eq_true (by omega)
  have hall : [a, b].all shortT = true := by rw [List.all_cons, List.all_cons, h1, h2]; rfl
  rw [areShort_eq _ (by simp), hall, Option.bind_some, ba_toList_eq]
  rfl
theorem polyTag_ok (key t : ByteArray) (hk : key.size = 32) (ht : t.size ≤ 65536) : ∃ l : List Int, impl_PolyTag.f key t = some (strOfNums l, 0) ∧ spec_PolyTag.f key t = some (strOfNums l, 0) ∧ isB l ∧ l.length = 16 ∧ (t.size = 0 → l = ((bytesOf key).drop 16).take 16) := by
  obtain ⟨l, hi, hs, h1, h2, h3⟩ := tag_both key t hk (by omega)
  have s1 : shortT key = true := decide_eq_true (by omega)
  have s2 : shortT t = true := decide_eq_true (by omega)
  have hall : [key, t].all shortT = true := by rw [List.all_cons, List.all_cons, s1, s2]; rfl
  refine ⟨l, ?_, ?_, h1, h2, h3⟩
  · unfold impl_PolyTag.f
    rw [areShort_eq _ (by simp), hall, Option.bind_some, hk, hi]; rfl
  · unfold spec_PolyTag.f
    rw [decide_eq_false (by omega), decide_eq_false (by omega), hk, hs]; rfl
theorem pure_laws_FnTag (x0 : List Int) (x1 : List Int) (g0 : (x0.length ≤ maxLen ∧ ∀ y : Int, y ∈ x0 → ((Lit.int .u8 y).wf = true))) (g1 : (x1.length ≤ maxLen ∧ ∀ y : Int, y ∈ x1 → ((Lit.int .u8 y).wf = true))) : laws_FnTag.f x0 x1 = some true := by
  unfold laws_FnTag.f
  by_cases c0 : (x0.length : Int) > 1048576
  · rw [decide_eq_true c0]; rfl
  by_cases c1 : (x1.length : Int) > 1048576
  · rw [decide_eq_true c1, decide_eq_false c0]; rfl
  rw [decide_eq_false c0, decide_eq_false c1]
  simp only [cond_false, Option.bind_some]
  have hb0 : isB x0 := fun b hb => wf_u8 (g0.2 b hb)
  have hb1 : isB x1 := fun b hb => wf_u8 (g1.2 b hb)
  obtain ⟨key, eK, hk⟩ := keyOf_some x0 (by omega) hb0
  obtain ⟨t, eT, hT⟩ := textOf_some x1 (by omega) hb1
  obtain ⟨i, eI, i0, i1⟩ := at_some x1 0 16 (by omega) hb1 (by omega) (by omega)
  obtain ⟨v, eV, v0, v1⟩ := at_some x0 0 255 (by omega) hb0 (by omega) (by omega)
  obtain ⟨l, p1, p2, hB, hl, _⟩ := polyTag_ok key t hk (by omega)
  obtain ⟨m, q1, _, hmB, hm, hmz⟩ := polyTag_ok key (⟨#[]⟩ : ByteArray) hk (by decide)
  obtain ⟨r, r1, r2⟩ := clamp_ok key hk
  have hkl := bytesOf_len key
  have hkB := bytesOf_isB key
  have eC : impl_ClampKey.f key = some (r, 0) := by
    have s1 : shortT key = true := decide_eq_true (by omega)
    unfold impl_ClampKey.f
    rw [areShort1, s1, Option.bind_some, hk, r1]; rfl
  have eD : spec_ClampKey.f key = some (r, 0) := by
    unfold spec_ClampKey.f
    rw [decide_eq_false (by omega), hk, ← clamp_eq, r1]; rfl
  have hz : (strOfNums l).size = 16 := by rw [strOfNums_size, hl]
  have z16 : (16 : Int).toNat = 16 := rfl
  have eM : strOfNums m = key.extract 16 key.size := by
    apply ba_ext
    rw [bytes_str hmB, hmz rfl, bytesOf_extract, hk]
  simp only [eK, eT, p1, p2, eC, eD, q1, Option.bind_some]
  rw [z16, eM, hz]
  have e1 : (((0 : Int) != 0) = true) = False := by decide
  simp only [bs_self, Bool.not_true, cond_false, bne_self_eq_false]
  rw [show (((16 : Nat) : Int) != 16) = false by decide]
  simp only [cond_false]
  rw [if_pos (by omega)]
  simp only [Option.bind_some, cond_false]
  obtain ⟨i, rfl⟩ := Int.eq_ofNat_of_zero_le i0
  have hi : i < 16 := by omega
  simp only [eI, eV, Option.bind_some]
  have w1 : w64 ((i : Int) + 1) = ((i + 1 : Nat) : Int) := by rw [w64_id (by omega) (by omega)]; omega
  have w2 : w64 (1 + v) = 1 + v := w64_id (by omega) (by omega)
  have hby := byteAt_eq (strOfNums l) (i : Int) (by omega) (by omega)
  rw [bytes_str hB, Int.toNat_natCast] at hby
  rw [if_pos (by omega), if_pos (by omega), w1, w2, hby]
  have hx : IntKind.wrap .u8 ((BitVec.ofInt 8 (l.getD i 0) ^^^ BitVec.ofInt 8 (IntKind.wrap .u8 (1 + v))).toNat : Int) = xb (l.getD i 0) (1 + v) := rfl
  rw [hx]
  have hg := getD_isB hB i
  have hne := xb_ne hg.1 hg.2 (show 1 ≤ 1 + v by omega) (show 1 + v ≤ 255 by omega)
  have hxb := xb_byte (l.getD i 0) (1 + v)
  obtain ⟨c, hc⟩ : ∃ c, c = xb (l.getD i 0) (1 + v) := ⟨_, rfl⟩
  rw [← hc] at hne hxb ⊢
  simp only [Int.toNat_natCast]
  have s1 : ((strOfNums l).extract 0 i).size = i := by rw [ByteArray.size_extract, hz]; omega
  have s2 : (strOfNums [c]).size = 1 := by rw [strOfNums_size]; rfl
  have s3 : ((strOfNums l).extract (i + 1) 16).size = 15 - i := by rw [ByteArray.size_extract, hz]; omega
  rw [if_pos (by omega), if_pos (by omega), if_pos (by rw [ByteArray.size_append]; omega)]
  have hcB : isB [c] := fun b hb => by simp at hb; omega
  have hdiff : ¬ strOfNums l = (strOfNums l).extract 0 i ++ strOfNums [c] ++ (strOfNums l).extract (i + 1) 16 := fun e => by
    have e2 := congrArg (fun x => (bytesOf x).getD i 0) e
    simp only [bytesOf_append, bytes_str hB, bytes_str hcB] at e2
    have hlen : (bytesOf ((strOfNums l).extract 0 i)).length = i := by rw [bytesOf_len, s1]
    rw [List.append_assoc, List.getD_eq_getElem?_getD (l := _ ++ _), List.getElem?_append_right (by omega), hlen, Nat.sub_self] at e2
    exact hne e2.symm
  have hdiff2 : ¬ strOfNums l = (strOfNums l).extract 0 i := fun e => by
    have := congrArg ByteArray.size e
    rw [hz, s1] at this; omega
  rw [tagEqual_eq _ _ (by omega) (by omega), tagEqual_eq _ _ (by omega) (by rw [ByteArray.size_append, ByteArray.size_append]; omega), tagEqual_eq _ _ (by omega) (by omega), decide_eq_true rfl, decide_eq_false hdiff, decide_eq_false hdiff2]
  simp only [Option.bind_some, cond_true, Bool.not_false]
  rw [if_pos (by omega)]
  rfl
theorem cz5 : Try.prog.cellsOf 5 = 1 := by kernel_rfl
theorem own : ownKnob Try.prog.godebug = none := by kernel_rfl
theorem laidOut : laidOutB Try.prog = true := by kernel_rfl
set_option maxRecDepth 100000 in
set_option maxHeartbeats 4000000 in
theorem lifted (os : Os) (started : os.Started) (H : Type) (enc : TypeId × Value → H) :
    ReturnsInHanded {} Try.checked os 4 .any (Rows.fnTagSpec.pre6 enc Try.prog Try.f4 Rows.fnTagRow.domain false) (Rows.fnTagSpec.post enc Try.prog Try.f4 false true false false) := by
  refine returnsInHanded_of_change_sized (C := Try.checked) own started (by kernel_rfl) Try.func4
    (ChangeSpec.witness6 (enc := enc) (C := Try.checked) false ⟨#[], #[.slice none 0 0, .slice none 0 0], []⟩ 8 (by kernel_rfl) (by kernel_rfl) (by kernel_rfl) (by kernel_rfl)) ?_
  intro W base args ds gs before hval0 hW hcnd hsz0 _
  have hval : ∀ (j : Nat) t v, Try.f4.params[j]? = some t → args[j]? = some v → Value.okWide Try.prog W .any base t v := hval0
  have hW' := hW
  obtain ⟨p, q, hA0, hV, rfl, hfz, hnd⟩ := hW
  have hA : DataW.TrodAll enc Try.prog W 0 (fun _ => true) true Try.f4.params.toList args.toList ds p := hA0
  rw [Try.params4] at hA hval
  obtain ⟨v0, vs0, d0, ds0, p0, q0, hargs, rfl, rfl, h0, r0⟩ := trodAll_cons hA
  obtain ⟨v1, vs1, d1, ds1, p1, q1, rfl, rfl, rfl, h1, r1⟩ := trodAll_cons r0
  obtain ⟨rfl, rfl, rfl⟩ := trodAll_nil r1
  obtain rfl : args = #[v0, v1] := by cases args; simp_all
  obtain ⟨rfl, rfl⟩ := trodVars_none hV
  have k0 := h0
  have lt0 : ∀ x ∈ p0, x.block < W.heap.size := by obtain ⟨m, hm⟩ := k0; exact DataW.trod_lt m _ _ _ hm
  obtain ⟨f0, hf0⟩ := h0
  obtain ⟨y0, hy0, hg0⟩ := (opens_sl Try.underlying22 cz5 (by decide) (opens_int Try.underlying5)) H enc f0 _ _ hf0
  obtain ⟨A0_, p0_, e0, w0_⟩ : ∃ A p, v0 = Value.slice A y0.length p ∧ View (Lay.int .u8) A p y0 (heapC W) := by
    obtain ⟨A, n, c, rfl⟩ := okWide_slice Try.underlying22 (hval 0 22 v0 rfl rfl)
    obtain ⟨v, hv, A, p, rfl, hh⟩ := hy0
    simp only [Value.cells] at hv
    exact ⟨A, p, by simpa using hv, hh⟩
  subst e0
  have k1 := h1
  have lt1 : ∀ x ∈ p1, x.block < W.heap.size := by obtain ⟨m, hm⟩ := k1; exact DataW.trod_lt m _ _ _ hm
  obtain ⟨f1, hf1⟩ := h1
  obtain ⟨y1, hy1, hg1⟩ := (opens_sl Try.underlying22 cz5 (by decide) (opens_int Try.underlying5)) H enc f1 _ _ hf1
  obtain ⟨A1_, p1_, e1, w1_⟩ : ∃ A p, v1 = Value.slice A y1.length p ∧ View (Lay.int .u8) A p y1 (heapC W) := by
    obtain ⟨A, n, c, rfl⟩ := okWide_slice Try.underlying22 (hval 1 22 v1 rfl rfl)
    obtain ⟨v, hv, A, p, rfl, hh⟩ := hy1
    simp only [Value.cells] at hv
    exact ⟨A, p, by simpa using hv, hh⟩
  subst e1
  clear hA0 hval0 hsz0
  refine (laws_FnTag_t W A0_ p0_ y0 (heapC W) w0_ (heapC_has W) A1_ p1_ y1 (heapC W) w1_ (heapC_has W) true (pure_laws_FnTag y0 y1 hg0 hg1)).mono fun e W' ⟨v, he, hv, hS⟩ => ?_
  subst he; subst hv
  have bel := hS.below
  exact ⟨_, rfl, _, _, _, [], _, [], hW', trodAll_mk1 (shutB Try.underlying4 _), (trodAll_cons_mk (Below.trod laidOut (by kernel_rfl) (of_decide_eq_true (by kernel_rfl)) k0 bel lt0) (trodAll_cons_mk (Below.trod laidOut (by kernel_rfl) (of_decide_eq_true (by kernel_rfl)) k1 bel lt1) trodAll_mk0)), rfl, bel.frame _, fun h => by cases h⟩
theorem over : Rows.fnTagRow.holds Try.pinned (OpenSpec.ofChange Rows.fnTagSpec) :=
  OpenClaim.holds_of_wide 4 Try.f4 rfl rfl rfl rfl rfl rfl rfl ⟨rfl, rfl, rfl, rfl, rfl⟩ rfl rfl rfl rfl rfl (by kernel_rfl) Try.func4 (by kernel_rfl)
    (of_decide_eq_true (by kernel_rfl)) (by unfold Func.isWrapper; first | (rw [if_pos (by decide +kernel)]; kernel_rfl) | (rw [if_neg (by decide +kernel)]; exact ⟨rfl, rfl⟩))
    (fun os started H enc _ => lifted os started H enc)
theorem fnTag_holds : Rows.FnTagSaid := over
end Go.Proofs.Yteklgnhfgdhdiaa.RFTag
