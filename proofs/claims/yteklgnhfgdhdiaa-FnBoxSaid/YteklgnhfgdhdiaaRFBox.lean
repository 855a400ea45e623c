/- FnBox: for every input the law returns true, and its arguments read as before. No conditions but the row's own. -/
import Derived.Test.YteklgnhfgdhdiaaPFBox
namespace Go.Proofs.Yteklgnhfgdhdiaa.RFBox
open Go Go.Z Go.Proofs Go.MuLone Go.ChangeShapes Go.WideShapes Go.ChangeAt Go.RowKit
set_option linter.unusedVariables false
set_option linter.unusedSimpArgs false
theorem sealBox_ok (key nonce ad t : ByteArray) (hk : key.size = 32) (hn : nonce.size = 12) (ha : ad.size ≤ 65536) (ht : t.size ≤ 65520) (x : ByteArray) (h1 : impl_seal.f key nonce ad t = some x) (h2 : spec_l04Seal.f key nonce ad t = some x) :
    impl_SealBox.f key nonce ad t = some (x, 0) ∧ spec_SealBox.f key nonce ad t = some (x, 0) := by
  constructor
  · unfold impl_SealBox.f
    rw [boxCode_ok _ _ _ _ hk hn ha (by omega), Option.bind_some, h1]; rfl
  · unfold spec_SealBox.f
    rw [boxAsk_ok _ _ _ _ hk hn ha (by omega), decide_eq_false (by omega), decide_eq_false (by omega), decide_eq_false (by omega), decide_eq_false (by omega), h2]; rfl
def openR (r : ByteArray × Bool) : ByteArray × Int := bif !r.2 then ((⟨#[]⟩ : ByteArray), 9) else (r.1, 0)
theorem openBox_i (key nonce ad x : ByteArray) (r : ByteArray × Bool) (hk : key.size = 32) (hn : nonce.size = 12) (ha : ad.size ≤ 65536) (hx : x.size ≤ 65536) (h : impl_open.f key nonce ad x = some r) :
    impl_OpenBox.f key nonce ad x = some (openR r) := by
  unfold impl_OpenBox.f
  rw [boxCode_ok _ _ _ _ hk hn ha hx, Option.bind_some, h]
  obtain ⟨a, b⟩ := r
  cases b <;> rfl
theorem openBox_s (key nonce ad x : ByteArray) (r : ByteArray × Bool) (hk : key.size = 32) (hn : nonce.size = 12) (ha : ad.size ≤ 65536) (hx : x.size ≤ 65536) (h : spec_l04Open.f key nonce ad x = some r) :
    spec_OpenBox.f key nonce ad x = some (openR r) := by
  unfold spec_OpenBox.f
  rw [boxAsk_ok _ _ _ _ hk hn ha hx, decide_eq_false (by omega), decide_eq_false (by omega), decide_eq_false (by omega), decide_eq_false (by omega), h]
  obtain ⟨a, b⟩ := r
  cases b <;> rfl
theorem pure_laws_FnBox (x0 : List Int) (x1 : List Int) (g0 : (x0.length ≤ maxLen ∧ ∀ y : Int, y ∈ x0 → ((Lit.int .u8 y).wf = true))) (g1 : (x1.length ≤ maxLen ∧ ∀ y : Int, y ∈ x1 → ((Lit.int .u8 y).wf = true))) : laws_FnBox.f x0 x1 = some true := by
  unfold laws_FnBox.f
  by_cases c0 : (x0.length : Int) > 1048576
  · rw [decide_eq_true c0]; rfl
  by_cases c1 : (x1.length : Int) > 1048576
  · rw [decide_eq_true c1, decide_eq_false c0]; rfl
  rw [decide_eq_false c0, decide_eq_false c1]
  simp only [cond_false, Option.bind_some]
  have hb0 : isB x0 := fun b hb => wf_u8 (g0.2 b hb)
  have hb1 : isB x1 := fun b hb => wf_u8 (g1.2 b hb)
  obtain ⟨key, eK, hk⟩ := keyOf_some x0 (by omega) hb0
  obtain ⟨nonce, eN, hn⟩ := nonceDrawn_some x1 (by omega) hb1
  obtain ⟨q, eQ, q0, q1⟩ := at_some x1 0 20 (by omega) hb1 (by omega) (by omega)
  obtain ⟨ad, eA, hA⟩ := bytesOf_some x0 q (by omega) hb0 (by omega)
  obtain ⟨t, eT, hT⟩ := textOf_some x1 (by omega) hb1
  obtain ⟨l, i1, i3, i4, s1, s2⟩ := seal_both key nonce ad t hk hn (by omega) (by omega)
  have hz := stS_size key nonce t 1
  have h16 : (strOfNums l).size = 16 := by rw [strOfNums_size, i4]
  have eO := open_own key nonce ad t l hk hn (by omega) i1 i4
  obtain ⟨S, hS⟩ : ∃ S, S = strOfNums (stL key nonce 1 (bytesOf t)) := ⟨_, rfl⟩
  rw [← hS] at hz s1 s2 i1 eO
  obtain ⟨x, hx⟩ : ∃ x, x = S ++ strOfNums l := ⟨_, rfl⟩
  have xz : x.size = t.size + 16 := by rw [hx, ByteArray.size_append, hz, h16]
  have xl : x.extract 0 t.size = S := by rw [hx]; exact ext_left _ _ _ hz
  have xr : x.extract t.size x.size = strOfNums l := by rw [hx]; exact ext_right _ _ _ _ hz rfl
  rw [← hx] at s1 s2 eO
  obtain ⟨b1, b2⟩ := sealBox_ok key nonce ad t hk hn (by omega) (by omega) x s1 s2
  have b3 := openBox_i key nonce ad x (t, true) hk hn (by omega) (by omega) eO
  have b4 : impl_BoxTag.f key nonce ad S = some (strOfNums l, 0) := by
    unfold impl_BoxTag.f
    rw [boxCode_ok _ _ _ _ hk hn (by omega) (by omega), Option.bind_some, i1]; rfl
  obtain ⟨i, eI, i0, i5⟩ := at_some x1 1 (x.size : Int) (by omega) hb1 (by omega) (by omega)
  obtain ⟨v, eV, v0, v1⟩ := at_some x0 1 255 (by omega) hb0 (by omega) (by omega)
  obtain ⟨i, rfl⟩ := Int.eq_ofNat_of_zero_le i0
  have hi : i < x.size := by omega
  simp only [eK, eN, eQ, eA, eT, b1, b2, b3, Option.bind_some]
  have w0 : w64 ((t.size : Int) + 16) = (x.size : Int) := by rw [w64_id (by omega) (by omega)]; omega
  have o1 : (openR (t, true)).1 = t := rfl
  have o2 : (openR (t, true)).2 = 0 := rfl
  rw [w0, o1, o2, Int.toNat_natCast, xl, b4, xr]
  simp only [bs_self, Bool.not_true, cond_false, bne_self_eq_false, Option.bind_some]
  rw [if_pos (by omega)]
  simp only [eI, eV, Option.bind_some]
  have w1 : w64 ((i : Int) + 1) = ((i + 1 : Nat) : Int) := by rw [w64_id (by omega) (by omega)]; omega
  obtain ⟨c, hc⟩ : ∃ c, c = (IntKind.wrap .u8 ((BitVec.ofInt 8 (byteAt x (i : Int)) ^^^ BitVec.ofInt 8 (IntKind.wrap .u8 (w64 (1 + v)))).toNat : Int)) := ⟨_, rfl⟩
  rw [← hc, w1]
  simp only [Int.toNat_natCast]
  have z1 : (x.extract 0 i).size = i := by rw [ByteArray.size_extract]; omega
  have z2 : (strOfNums [c]).size = 1 := by rw [strOfNums_size]; rfl
  have z3 : (x.extract (i + 1) x.size).size = x.size - (i + 1) := by rw [ByteArray.size_extract]; omega
  have z4 : (x.extract 0 i ++ strOfNums [c]).size = i + 1 := by rw [ByteArray.size_append, z1, z2]
  obtain ⟨y, hy⟩ : ∃ y, y = x.extract 0 i ++ strOfNums [c] ++ x.extract (i + 1) x.size := ⟨_, rfl⟩
  have yz : y.size = x.size := by rw [hy, ByteArray.size_append, z4, z3]; omega
  obtain ⟨r, r1, r2, r3⟩ := open_both key nonce ad y hk hn (by omega) (by omega)
  have f1 := openBox_i key nonce ad y r hk hn (by omega) (by omega) r1
  have f2 := openBox_s key nonce ad y r hk hn (by omega) (by omega) r2
  have wm : Int.tmod (i : Int) 16 = ((i % 16 : Nat) : Int) := by rw [Int.tmod_eq_emod_of_nonneg (by omega)]; omega
  have z5 : (x.extract 0 (i % 16)).size = i % 16 := by rw [ByteArray.size_extract]; omega
  have f3 : impl_OpenBox.f key nonce ad (x.extract 0 (i % 16)) = some ((⟨#[]⟩ : ByteArray), 9) := by
    have := openBox_i key nonce ad (x.extract 0 (i % 16)) ((⟨#[]⟩ : ByteArray), false) hk hn (by omega) (by omega) (by
      unfold impl_open.f; rw [z5, decide_eq_true (by omega)]; rfl)
    exact this
  rw [if_pos (by omega), if_pos (by omega), if_pos (by omega), if_pos (by omega), if_pos (by omega), ← hy, f1, wm, Int.toNat_natCast]
  simp only [Option.bind_some, f2, f3]
  rw [if_pos (by omega), if_pos (by omega)]
  obtain ⟨ra, rb⟩ := r
  cases rb
  · rfl
  · have h := r3 rfl
    have e : ((ra.size : Int) == (t.size : Int)) = true := beq_iff_eq.2 (by simp only at h; omega)
    have o3 : (openR (ra, true)).1 = ra := rfl
    have o4 : (openR (ra, true)).2 = 0 := rfl
    rw [o3, o4, e]; rfl
theorem cz5 : Try.prog.cellsOf 5 = 1 := by kernel_rfl
theorem own : ownKnob Try.prog.godebug = none := by kernel_rfl
theorem laidOut : laidOutB Try.prog = true := by kernel_rfl
set_option maxRecDepth 100000 in
set_option maxHeartbeats 4000000 in
theorem lifted (os : Os) (started : os.Started) (H : Type) (enc : TypeId × Value → H) :
    ReturnsInHanded {} Try.checked os 6 .any (Rows.fnBoxSpec.pre6 enc Try.prog Try.f6 Rows.fnBoxRow.domain false) (Rows.fnBoxSpec.post enc Try.prog Try.f6 false true false false) := by
  refine returnsInHanded_of_change_sized (C := Try.checked) own started (by kernel_rfl) Try.func6
    (ChangeSpec.witness6 (enc := enc) (C := Try.checked) false ⟨#[], #[.slice none 0 0, .slice none 0 0], []⟩ 8 (by kernel_rfl) (by kernel_rfl) (by kernel_rfl) (by kernel_rfl)) ?_
  intro W base args ds gs before hval0 hW hcnd hsz0 _
  have hval : ∀ (j : Nat) t v, Try.f6.params[j]? = some t → args[j]? = some v → Value.okWide Try.prog W .any base t v := hval0
  have hW' := hW
  obtain ⟨p, q, hA0, hV, rfl, hfz, hnd⟩ := hW
  have hA : DataW.TrodAll enc Try.prog W 0 (fun _ => true) true Try.f6.params.toList args.toList ds p := hA0
  rw [Try.params6] at hA hval
  obtain ⟨v0, vs0, d0, ds0, p0, q0, hargs, rfl, rfl, h0, r0⟩ := trodAll_cons hA
  obtain ⟨v1, vs1, d1, ds1, p1, q1, rfl, rfl, rfl, h1, r1⟩ := trodAll_cons r0
  obtain ⟨rfl, rfl, rfl⟩ := trodAll_nil r1
  obtain rfl : args = #[v0, v1] := by cases args; simp_all
  obtain ⟨rfl, rfl⟩ := trodVars_none hV
  have k0 := h0
  have lt0 : ∀ x ∈ p0, x.block < W.heap.size := by obtain ⟨m, hm⟩ := k0; exact DataW.trod_lt m _ _ _ hm
  obtain ⟨f0, hf0⟩ := h0
  obtain ⟨y0, hy0, hg0⟩ := (opens_sl Try.underlying22 cz5 (by decide) (opens_int Try.underlying5)) H enc f0 _ _ hf0
  obtain ⟨A0_, p0_, e0, w0_⟩ : ∃ A p, v0 = Value.slice A y0.length p ∧ View (Lay.int .u8) A p y0 (heapC W) := by
    obtain ⟨A, n, c, rfl⟩ := okWide_slice Try.underlying22 (hval 0 22 v0 rfl rfl)
    obtain ⟨v, hv, A, p, rfl, hh⟩ := hy0
    simp only [Value.cells] at hv
    exact ⟨A, p, by simpa using hv, hh⟩
  subst e0
  have k1 := h1
  have lt1 : ∀ x ∈ p1, x.block < W.heap.size := by obtain ⟨m, hm⟩ := k1; exact DataW.trod_lt m _ _ _ hm
  obtain ⟨f1, hf1⟩ := h1
  obtain ⟨y1, hy1, hg1⟩ := (opens_sl Try.underlying22 cz5 (by decide) (opens_int Try.underlying5)) H enc f1 _ _ hf1
  obtain ⟨A1_, p1_, e1, w1_⟩ : ∃ A p, v1 = Value.slice A y1.length p ∧ View (Lay.int .u8) A p y1 (heapC W) := by
    obtain ⟨A, n, c, rfl⟩ := okWide_slice Try.underlying22 (hval 1 22 v1 rfl rfl)
    obtain ⟨v, hv, A, p, rfl, hh⟩ := hy1
    simp only [Value.cells] at hv
    exact ⟨A, p, by simpa using hv, hh⟩
  subst e1
  clear hA0 hval0 hsz0
  refine (laws_FnBox_t W A0_ p0_ y0 (heapC W) w0_ (heapC_has W) A1_ p1_ y1 (heapC W) w1_ (heapC_has W) true (pure_laws_FnBox y0 y1 hg0 hg1)).mono fun e W' ⟨v, he, hv, hS⟩ => ?_
  subst he; subst hv
  have bel := hS.below
  exact ⟨_, rfl, _, _, _, [], _, [], hW', trodAll_mk1 (shutB Try.underlying4 _), (trodAll_cons_mk (Below.trod laidOut (by kernel_rfl) (of_decide_eq_true (by kernel_rfl)) k0 bel lt0) (trodAll_cons_mk (Below.trod laidOut (by kernel_rfl) (of_decide_eq_true (by kernel_rfl)) k1 bel lt1) trodAll_mk0)), rfl, bel.frame _, fun h => by cases h⟩
theorem over : Rows.fnBoxRow.holds Try.pinned (OpenSpec.ofChange Rows.fnBoxSpec) :=
  OpenClaim.holds_of_wide 6 Try.f6 rfl rfl rfl rfl rfl rfl rfl ⟨rfl, rfl, rfl, rfl, rfl⟩ rfl rfl rfl rfl rfl (by kernel_rfl) Try.func6 (by kernel_rfl)
    (of_decide_eq_true (by kernel_rfl)) (by unfold Func.isWrapper; first | (rw [if_pos (by decide +kernel)]; kernel_rfl) | (rw [if_neg (by decide +kernel)]; exact ⟨rfl, rfl⟩))
    (fun os started H enc _ => lifted os started H enc)
theorem fnBox_holds : Rows.FnBoxSaid := over
end Go.Proofs.Yteklgnhfgdhdiaa.RFBox
