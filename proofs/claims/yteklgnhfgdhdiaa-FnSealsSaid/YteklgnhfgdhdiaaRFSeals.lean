/- FnSeals: for every input the law returns true, and its arguments read as before. No conditions but the row's own. -/
import Derived.Test.YteklgnhfgdhdiaaPFSeals
namespace Go.Proofs.Yteklgnhfgdhdiaa.RFSeals
open Go Go.Z Go.Proofs Go.MuLone Go.ChangeShapes Go.WideShapes Go.ChangeAt Go.RowKit
set_option linter.unusedVariables false
set_option linter.unusedSimpArgs false
theorem by4_0 (x : Int) : by4 x 0 = x % 256 := by
  have h : Int.fdiv x 1 = x := by rw [Int.fdiv_eq_ediv_of_nonneg _ (by decide)]; omega
  show (Int.fdiv x 1) % 256 = _
  rw [h]
theorem littleN_i (x : Int) (n : Nat) (hn : n ≤ 8) : impl_little.f x (n : Int) = some (strOfNums ((List.range n).map (by4 x))) := by
  unfold impl_little.f
  have := loopO_run (step := fun s : List Int × Int => impl_little.s0 x (n : Int) s.1 s.2) (fun k => ((List.range k).map (by4 x), (k : Int))) n (r := .out ((List.range n).map (by4 x))) (fun k hk => by
    simp only [impl_little.s0, decide_eq_true (show (k : Int) < (n : Int) by omega), cond_true]
    rw [w64_id (x := 8 * (k : Int)) (by omega) (by omega), w64_id (x := (k : Int) + 1) (by omega) (by omega), if_pos (by omega), if_pos (by simp; omega), show min (8 * (k : Int)).toNat 64 = 8 * k by omega, List.range_succ, List.map_append]
    rfl) (by simp only [impl_little.s0, decide_eq_false (show ¬ (n : Int) < (n : Int) by omega)]; rfl)
  have t2 : loopO (fun s : List Int × Int => impl_little.s0 x (n : Int) s.1 s.2) (([] : List Int), 0) = _ := this
  rw [t2]; rfl
def nonL (k p e : Int) : List Int := ((List.range 1).map (by4 k) ++ (List.range 2).map (by4 p) ++ (List.range 1).map (by4 0)) ++ bytes8 e
theorem mapBy_isB (x : Int) (n : Nat) : isB ((List.range n).map (by4 x)) := by
  intro b hb
  obtain ⟨k, _, rfl⟩ := List.mem_map.1 hb
  exact by4_rng x k
theorem nonL_isB (k p e : Int) : isB (nonL k p e) := by
  intro b hb
  rcases List.mem_append.1 hb with h | h
  · rcases List.mem_append.1 h with h | h
    · rcases List.mem_append.1 h with h | h
      · exact mapBy_isB _ _ b h
      · exact mapBy_isB _ _ b h
    · exact mapBy_isB _ _ b h
  · exact mapBy_isB _ _ b h
theorem nonL_len (k p e : Int) : (nonL k p e).length = 12 := by simp [nonL, bytes8]
theorem nonS_size (k p e : Int) : (strOfNums (nonL k p e)).size = 12 := by rw [strOfNums_size, nonL_len]
theorem nonce_i (k p e : Int) : impl_nonceOf.f k p e = some (strOfNums (nonL k p e)) := by
  have a1 := littleN_i k 1 (by omega)
  have a2 := littleN_i p 2 (by omega)
  have a3 := littleN_i 0 1 (by omega)
  have a4 := little8_i e
  have z (x : Int) (n : Nat) : (strOfNums ((List.range n).map (by4 x))).size = n := by rw [strOfNums_size]; simp
  have b1 : (1 : Int) = ((1 : Nat) : Int) := rfl
  have b2 : (2 : Int) = ((2 : Nat) : Int) := rfl
  unfold impl_nonceOf.f
  rw [b1, b2, a1, a2, a3, a4]
  simp only [Option.bind_some]
  have s1 : (strOfNums ((List.range 1).map (by4 k)) ++ strOfNums ((List.range 2).map (by4 p))).size = 3 := by rw [ByteArray.size_append, z, z]
  have s2 : (strOfNums ((List.range 1).map (by4 k)) ++ strOfNums ((List.range 2).map (by4 p)) ++ strOfNums ((List.range 1).map (by4 0))).size = 4 := by rw [ByteArray.size_append, s1, z]
  have z1 := z k 1
  have z2 := z p 2
  have z3 := z 0 1
  have z4 := bytes8_size e
  rw [if_pos (by omega), if_pos (by omega), if_pos (by omega)]
  unfold nonL
  rw [str_append, str_append, str_append]
theorem nonce_s (k p e : Int) : spec_l06Nonce.f k p e = some (strOfNums (nonL k p e)) := by
  have hl : nonL k p e = [IntKind.wrap .u8 k, IntKind.wrap .u8 p, IntKind.wrap .u8 (Int.fdiv p (2 ^ 8)), 0] ++ bytes8 e := by
    have h1 : by4 k 0 = IntKind.wrap .u8 k := by4_0 k
    have h2 : by4 p 0 = IntKind.wrap .u8 p := by4_0 p
    have h3 : by4 0 0 = 0 := by4_0 0
    show [by4 k 0, by4 p 0, by4 p 1, by4 0 0] ++ bytes8 e = _
    rw [h1, h2, h3]; rfl
  unfold spec_l06Nonce.f
  rw [eight_s, Option.bind_some, hl, str_append, bytes8_size, if_pos (by rw [strOfNums_size]; show 4 + 8 ≤ _; omega)]
theorem nonS_ne (k p e k2 p2 e2 : Int) (h : p % 256 ≠ p2 % 256 ∨ e % 256 ≠ e2 % 256) : ((strOfNums (nonL k p e)).toList == (strOfNums (nonL k2 p2 e2)).toList) = false := by
  rw [ba_toList_eq]
  refine decide_eq_false fun q => ?_
  have hl : nonL k p e = nonL k2 p2 e2 := by
    have := congrArg bytesOf q
    rwa [bytes_str (nonL_isB _ _ _), bytes_str (nonL_isB _ _ _)] at this
  have h1 : by4 p 0 = by4 p2 0 := congrArg (fun l : List Int => l.getD 1 0) hl
  have h2 : by4 e 0 = by4 e2 0 := congrArg (fun l : List Int => l.getD 4 0) hl
  rw [by4_0, by4_0] at h1 h2
  omega
theorem wd_textL : ∀ (l : List Int) (h : ∀ x ∈ l, 0 ≤ x ∧ x < 4294967296) (j : Nat) (hj : j < l.length), wd (textL l) j = l[j]
  | [], _, j, hj => by simp at hj
  | x :: l, h, 0, _ => by
    obtain ⟨h0, h1⟩ := h x (by simp)
    obtain ⟨c, rfl⟩ := Int.eq_ofNat_of_zero_le h0
    have e : textL ((c : Int) :: l) = bytes4 (c : Int) ++ textL l := by simp [textL]
    rw [e, wd_left _ _ _ (by rw [bytes4_len]; omega), wd_bytes4 c (by omega)]; rfl
  | x :: l, h, j + 1, hj => by
    have e : textL (x :: l) = bytes4 x ++ textL l := by simp [textL]
    have q := wd_right (bytes4 x) (textL l) j 1 (by rw [bytes4_len])
    rw [Nat.add_comm 1 j, wd_textL l (fun y hy => h y (by simp [hy])) j (by simpa using hj)] at q
    rw [e, q]; rfl
theorem wdsN_textL (l : List Int) (h : ∀ x ∈ l, 0 ≤ x ∧ x < 4294967296) : wdsN (textL l) l.length = l := by
  apply List.ext_getElem (by simp [wdsN])
  intro j h1 h2
  simp only [wdsN, List.getElem_map, List.getElem_range]
  exact wd_textL l h j h2
theorem textL_isB (l : List Int) : isB (textL l) := by
  intro b hb
  obtain ⟨x, _, h⟩ := List.mem_flatMap.1 hb
  exact bytes4_isB x b h
def blockB : ByteArray := (⟨#[98, 108, 111, 99, 107]⟩ : ByteArray)
theorem blockCode_ok (key t : ByteArray) (k p e : Int) (hk : key.size = 32) (ht : t.size ≤ 65536) (h1 : inB k 1 3 = true) (h2 : inB p 0 39 = true) (h3 : inB e 0 1099511627776 = true) : impl_blockCode.f key k p e t = some 0 := by
  have s1 : shortT key = true := decide_eq_true (by omega)
  have s2 : shortT t = true := decide_eq_true (by omega)
  have hall : [key, t].all shortT = true := by rw [List.all_cons, List.all_cons, s1, s2]; rfl
  unfold impl_blockCode.f impl_nonceCode.f
  rw [areShort_eq _ (by simp), hall, Option.bind_some, hk, within_eq, h1, isSector_eq, h2, within_eq, h3]
  rfl
theorem nonceOf_ok (k p e : Int) (h1 : inB k 1 3 = true) (h2 : inB p 0 39 = true) (h3 : inB e 0 1099511627776 = true) : impl_NonceOf.f k p e = some (strOfNums (nonL k p e), 0) := by
  unfold impl_NonceOf.f impl_nonceCode.f
  rw [within_eq, h1, isSector_eq, h2, within_eq, h3, nonce_i]
  rfl
theorem blockAsk_ok (key t : ByteArray) (k p e : Int) (hk : key.size = 32) (ht : t.size ≤ 65536) (h1 : inB k 1 3 = true) (h2 : inB p 0 39 = true) (h3 : inB e 0 1099511627776 = true) : spec_l06Ask.f key k p e t = some 0 := by
  unfold spec_l06Ask.f spec_l06In.f spec_l05In.f
  rw [decide_eq_false (by omega), decide_eq_false (by omega), hk, l01In_eq, h1, l01In_eq, h2, l01In_eq, h3]
  rfl
theorem pure_laws_FnSeals (x0 : List Int) (x1 : List Int) (g0 : (x0.length ≤ maxLen ∧ ∀ y : Int, y ∈ x0 → ((Lit.int .u8 y).wf = true))) (g1 : (x1.length ≤ maxLen ∧ ∀ y : Int, y ∈ x1 → ((Lit.int .u8 y).wf = true))) : laws_FnSeals.f x0 x1 = some true := by
  unfold laws_FnSeals.f
  by_cases c0 : (x0.length : Int) > 1048576
  · rw [decide_eq_true c0]; rfl
  by_cases c1 : (x1.length : Int) > 1048576
  · rw [decide_eq_true c1, decide_eq_false c0]; rfl
  rw [decide_eq_false c0, decide_eq_false c1]
  simp only [cond_false, Option.bind_some]
  have hb0 : isB x0 := fun b hb => wf_u8 (g0.2 b hb)
  have hb1 : isB x1 := fun b hb => wf_u8 (g1.2 b hb)
  obtain ⟨key, eK, hk⟩ := keyOf_some x0 (by omega) hb0
  obtain ⟨t, eT, hT⟩ := textOf_some x1 (by omega) hb1
  obtain ⟨k, e1, k0, k1⟩ := at_some x1 0 3 (by omega) hb1 (by omega) (by omega)
  obtain ⟨p, e2, p0, p1⟩ := at_some x1 1 39 (by omega) hb1 (by omega) (by omega)
  obtain ⟨e, e3, q0, q1⟩ := at_some x1 2 5000 (by omega) hb1 (by omega) (by omega)
  obtain ⟨v, e4, v0, v1⟩ := at_some x1 3 9 (by omega) hb1 (by omega) (by omega)
  obtain ⟨l, e5, l0, l1⟩ := drawsOf_some x0 v (by omega) hb0 (by omega)
  have wk : w64 (1 + k) = 1 + k := w64_id (by omega) (by omega)
  have wp : w64 (p + 1) = p + 1 := w64_id (by omega) (by omega)
  have we : w64 (e + 1) = e + 1 := w64_id (by omega) (by omega)
  have i1 : inB (1 + k) 1 3 = true := inB_iff.2 ⟨by omega, by omega⟩
  have i2 : inB p 0 39 = true := inB_iff.2 ⟨by omega, by omega⟩
  have i2s : inB (p + 1) 0 39 = true := inB_iff.2 ⟨by omega, by omega⟩
  have i3 : inB e 0 1099511627776 = true := inB_iff.2 ⟨by omega, by omega⟩
  have i3s : inB (e + 1) 0 1099511627776 = true := inB_iff.2 ⟨by omega, by omega⟩
  have hn := nonS_size (1 + k) p e
  have hbl : blockB.size = 5 := rfl
  have nI := nonce_i (1 + k) p e
  have nS := nonce_s (1 + k) p e
  obtain ⟨n, hnn⟩ : ∃ n, n = strOfNums (nonL (1 + k) p e) := ⟨_, rfl⟩
  rw [← hnn] at hn nI nS
  obtain ⟨m, j1, j3, j4, s1, s2⟩ := seal_both key n blockB t hk hn (by omega) (by omega)
  have eO := open_own key n blockB t m hk hn (by omega) j1 j4
  have hz := stS_size key n t 1
  have h16 : (strOfNums m).size = 16 := by rw [strOfNums_size, j4]
  obtain ⟨x, hx⟩ : ∃ x, x = strOfNums (stL key n 1 (bytesOf t)) ++ strOfNums m := ⟨_, rfl⟩
  have xz : x.size = t.size + 16 := by rw [hx, ByteArray.size_append, hz, h16]
  rw [← hx] at s1 s2 eO
  have b1 : impl_SealAt.f key (1 + k) p e t = some (x, 0) := by
    unfold impl_SealAt.f impl_sealed.f
    rw [blockCode_ok key t (1 + k) p e hk (by omega) i1 i2 i3, Option.bind_some, nI, Option.bind_some]
    have s1 : impl_seal.f key n (⟨#[98, 108, 111, 99, 107]⟩ : ByteArray) t = some x := s1
    rw [s1]; rfl
  have b2 : spec_SealAt.f key (1 + k) p e t = some (x, 0) := by
    unfold spec_SealAt.f spec_l06Seal.f
    rw [blockAsk_ok key t (1 + k) p e hk (by omega) i1 i2 i3, nS, decide_eq_false (by omega), decide_eq_false (by omega), Option.bind_some, Option.bind_some]
    have s2 : spec_l04Seal.f key n (⟨#[98, 108, 111, 99, 107]⟩ : ByteArray) t = some x := s2
    rw [s2]; rfl
  have b3 : impl_OpenAt.f key (1 + k) p e x = some (t, 0) := by
    unfold impl_OpenAt.f impl_opened.f
    rw [blockCode_ok key x (1 + k) p e hk (by omega) i1 i2 i3, Option.bind_some, nI, Option.bind_some]
    have eO : impl_open.f key n (⟨#[98, 108, 111, 99, 107]⟩ : ByteArray) x = some (t, true) := eO
    rw [eO]; rfl
  have n1 := nonceOf_ok (1 + k) p e i1 i2 i3
  have n2 := nonceOf_ok (1 + k) (p + 1) e i1 i2s i3
  have n3 := nonceOf_ok (1 + k) p (e + 1) i1 i2 i3s
  have d1 := nonS_ne (1 + k) p e (1 + k) (p + 1) e (.inl (by omega))
  have d2 := nonS_ne (1 + k) p e (1 + k) p (e + 1) (.inr (by omega))
  have d3 := nonS_ne (1 + k) (p + 1) e (1 + k) p (e + 1) (.inl (by omega))
  have t1 : impl_IntsText.f l = some (strOfNums (textL l), 0) := by
    unfold impl_IntsText.f
    rw [all_impl_areAll_int l impl_isWord.f (fun x => inB x 0 4294967295) (by omega) (fun x _ => by unfold impl_isWord.f; rw [within_eq]; rfl)]
    have e : l.all (fun x => inB x 0 4294967295) = true := List.all_eq_true.2 fun y hy => inB_iff.2 (by have := l1 y hy; omega)
    rw [e, decide_eq_false (by omega), intsText_eq l (by omega)]; rfl
  have tz : (strOfNums (textL l)).size = 4 * l.length := by rw [strOfNums_size, textL_len]
  have t2 : impl_TextInts.f (strOfNums (textL l)) = some (l, 0) := by
    have s1 : shortT (strOfNums (textL l)) = true := decide_eq_true (by omega)
    have hm : Int.tmod ((4 * l.length : Nat) : Int) 4 = 0 := by rw [Int.tmod_eq_emod_of_nonneg (by omega)]; omega
    unfold impl_TextInts.f
    rw [areShort1, s1, Option.bind_some, tz, hm, textInts_eq _ l.length tz (by omega), bytes_str (textL_isB l), wdsN_textL l (fun y hy => by have := l1 y hy; omega)]
    rfl
  have t3z : (strOfNums (textL l) ++ (⟨#[120]⟩ : ByteArray)).size = 4 * l.length + 1 := by rw [ByteArray.size_append, tz]; rfl
  have t3 : impl_TextInts.f (strOfNums (textL l) ++ (⟨#[120]⟩ : ByteArray)) = some (([] : List Int), 3) := by
    have s1 : shortT (strOfNums (textL l) ++ (⟨#[120]⟩ : ByteArray)) = true := decide_eq_true (by omega)
    have hm : Int.tmod ((4 * l.length + 1 : Nat) : Int) 4 = 1 := by rw [Int.tmod_eq_emod_of_nonneg (by omega)]; omega
    unfold impl_TextInts.f
    rw [areShort1, s1, Option.bind_some, t3z, hm]
    rfl
  have hx1 : (⟨#[120]⟩ : ByteArray).size = 1 := rfl
  have wl : w64 (4 * (l.length : Int)) = ((4 * l.length : Nat) : Int) := by rw [w64_id (by omega) (by omega)]; omega
  have z12 : (((12 : Nat) : Int) == 12) = true := rfl
  have q00 : ((0 : Int) == 0) = true := rfl
  simp only [eK, eT, e1, e2, e3, e4, Option.bind_some, wk, wp, we]
  simp only [b1, b2, b3, n1, n2, n3, e5, t1, t2, t3, Option.bind_some]
  rw [if_pos (by omega)]
  simp only [bs_self, q00, cond_true, nonS_size, z12, d1, d2, d3, Bool.not_false, sameInts_refl l (by omega), Option.bind_some, tz, wl, beq_self_eq_true]
theorem cz5 : Try.prog.cellsOf 5 = 1 := by kernel_rfl
theorem own : ownKnob Try.prog.godebug = none := by kernel_rfl
theorem laidOut : laidOutB Try.prog = true := by kernel_rfl
set_option maxRecDepth 100000 in
set_option maxHeartbeats 4000000 in
theorem lifted (os : Os) (started : os.Started) (H : Type) (enc : TypeId × Value → H) :
    ReturnsInHanded {} Try.checked os 7 .any (Rows.fnSealsSpec.pre6 enc Try.prog Try.f7 Rows.fnSealsRow.domain false) (Rows.fnSealsSpec.post enc Try.prog Try.f7 false true false false) := by
  refine returnsInHanded_of_change_sized (C := Try.checked) own started (by kernel_rfl) Try.func7
    (ChangeSpec.witness6 (enc := enc) (C := Try.checked) false ⟨#[], #[.slice none 0 0, .slice none 0 0], []⟩ 8 (by kernel_rfl) (by kernel_rfl) (by kernel_rfl) (by kernel_rfl)) ?_
  intro W base args ds gs before hval0 hW hcnd hsz0 _
  have hval : ∀ (j : Nat) t v, Try.f7.params[j]? = some t → args[j]? = some v → Value.okWide Try.prog W .any base t v := hval0
  have hW' := hW
  obtain ⟨p, q, hA0, hV, rfl, hfz, hnd⟩ := hW
  have hA : DataW.TrodAll enc Try.prog W 0 (fun _ => true) true Try.f7.params.toList args.toList ds p := hA0
  rw [Try.params7] at hA hval
  obtain ⟨v0, vs0, d0, ds0, p0, q0, hargs, rfl, rfl, h0, r0⟩ := trodAll_cons hA
  obtain ⟨v1, vs1, d1, ds1, p1, q1, rfl, rfl, rfl, h1, r1⟩ := trodAll_cons r0
  obtain ⟨rfl, rfl, rfl⟩ := trodAll_nil r1
  obtain rfl : args = #[v0, v1] := by cases args; simp_all
  obtain ⟨rfl, rfl⟩ := trodVars_none hV
  have k0 := h0
  have lt0 : ∀ x ∈ p0, x.block < W.heap.size := by obtain ⟨m, hm⟩ := k0; exact DataW.trod_lt m _ _ _ hm
  obtain ⟨f0, hf0⟩ := h0
  obtain ⟨y0, hy0, hg0⟩ := (opens_sl Try.underlying22 cz5 (by decide) (opens_int Try.underlying5)) H enc f0 _ _ hf0
  obtain ⟨A0_, p0_, e0, w0_⟩ : ∃ A p, v0 = Value.slice A y0.length p ∧ View (Lay.int .u8) A p y0 (heapC W) := by
    obtain ⟨A, n, c, rfl⟩ := okWide_slice Try.underlying22 (hval 0 22 v0 rfl rfl)
    obtain ⟨v, hv, A, p, rfl, hh⟩ := hy0
    simp only [Value.cells] at hv
    exact ⟨A, p, by simpa using hv, hh⟩
  subst e0
  have k1 := h1
  have lt1 : ∀ x ∈ p1, x.block < W.heap.size := by obtain ⟨m, hm⟩ := k1; exact DataW.trod_lt m _ _ _ hm
  obtain ⟨f1, hf1⟩ := h1
  obtain ⟨y1, hy1, hg1⟩ := (opens_sl Try.underlying22 cz5 (by decide) (opens_int Try.underlying5)) H enc f1 _ _ hf1
  obtain ⟨A1_, p1_, e1, w1_⟩ : ∃ A p, v1 = Value.slice A y1.length p ∧ View (Lay.int .u8) A p y1 (heapC W) := by
    obtain ⟨A, n, c, rfl⟩ := okWide_slice Try.underlying22 (hval 1 22 v1 rfl rfl)
    obtain ⟨v, hv, A, p, rfl, hh⟩ := hy1
    simp only [Value.cells] at hv
    exact ⟨A, p, by simpa using hv, hh⟩
  subst e1
  clear hA0 hval0 hsz0
  refine (laws_FnSeals_t W A0_ p0_ y0 (heapC W) w0_ (heapC_has W) A1_ p1_ y1 (heapC W) w1_ (heapC_has W) true (pure_laws_FnSeals y0 y1 hg0 hg1)).mono fun e W' ⟨v, he, hv, hS⟩ => ?_
  subst he; subst hv
  have bel := hS.below
  exact ⟨_, rfl, _, _, _, [], _, [], hW', trodAll_mk1 (shutB Try.underlying4 _), (trodAll_cons_mk (Below.trod laidOut (by kernel_rfl) (of_decide_eq_true (by kernel_rfl)) k0 bel lt0) (trodAll_cons_mk (Below.trod laidOut (by kernel_rfl) (of_decide_eq_true (by kernel_rfl)) k1 bel lt1) trodAll_mk0)), rfl, bel.frame _, fun h => by cases h⟩
theorem over : Rows.fnSealsRow.holds Try.pinned (OpenSpec.ofChange Rows.fnSealsSpec) :=
  OpenClaim.holds_of_wide 7 Try.f7 rfl rfl rfl rfl rfl rfl rfl ⟨rfl, rfl, rfl, rfl, rfl⟩ rfl rfl rfl rfl rfl (by kernel_rfl) Try.func7 (by kernel_rfl)
    (of_decide_eq_true (by kernel_rfl)) (by unfold Func.isWrapper; first | (rw [if_pos (by decide +kernel)]; kernel_rfl) | (rw [if_neg (by decide +kernel)]; exact ⟨rfl, rfl⟩))
    (fun os started H enc _ => lifted os started H enc)
theorem fnSeals_holds : Rows.FnSealsSaid := over
end Go.Proofs.Yteklgnhfgdhdiaa.RFSeals
