/- FnHash: for every input the law returns true, and its arguments read as before. No conditions but the row's own. -/
import Derived.Test.YteklgnhfgdhdiaaPFHash
namespace Go.Proofs.Yteklgnhfgdhdiaa.RFHash
open Go Go.Z Go.Proofs Go.MuLone Go.ChangeShapes Go.WideShapes Go.ChangeAt Go.RowKit
set_option linter.unusedVariables false
set_option linter.unusedSimpArgs false
theorem isB_take {l : List Int} (h : isB l) (n : Nat) : isB (l.take n) := fun b hb => h b (List.mem_of_mem_take hb)
theorem wl_all (f : Nat → Nat) (hf : w32 f) (n : Nat) : (wl n f).all (fun x => inB x 0 4294967295) = true := by
  refine List.all_eq_true.2 fun y hy => ?_
  obtain ⟨i, _, rfl⟩ := List.mem_map.1 hy
  have := hf i
  exact inB_iff.2 ⟨by omega, by omega⟩
theorem hashOK_St (l : List Int) (h : l.length ≤ 1000000000) : impl_HashOK.f (St l) = some true := by
  have hN : (St l).N = (l.length : Int) := rfl
  have hBs : ((St l).Buf.size : Int) = ((l.length % 64 : Nat) : Int) := by
    have : (St l).Buf = strOfNums (l.drop (64 * (l.length / 64))) := rfl
    rw [this, strOfNums_size, List.length_drop]; omega
  have hL : ([(St l).H0, (St l).H1, (St l).H2, (St l).H3, (St l).H4, (St l).H5, (St l).H6, (St l).H7] : List Int) = wl 8 (ab IV l (l.length / 64)) := rfl
  have hm : Int.tmod (l.length : Int) 64 = ((l.length % 64 : Nat) : Int) := by rw [Int.tmod_eq_emod_of_nonneg (by omega)]; omega
  have hi : inB (l.length : Int) 0 1000000000 = true := inB_iff.2 ⟨by omega, by omega⟩
  unfold impl_HashOK.f
  rw [hN, hBs, hm, within_eq, hi, hL, all_impl_areAll_int (wl 8 (ab IV l (l.length / 64))) impl_isWord.f (fun x => inB x 0 4294967295) (by rw [wl_len]; decide) (fun x _ => by unfold impl_isWord.f; rw [within_eq]; rfl), wl_all _ (ab_lt IV_lt l _)]
  simp
theorem hashMore_St (l : List Int) (hl : isB l) (t : ByteArray) (h : l.length ≤ 900000000) (ht : t.size ≤ 65536) : impl_HashMore.f (St l) t = some (St (l ++ bytesOf t), 0) := by
  have s1 : shortT t = true := decide_eq_true (by omega)
  have hN : (St l).N = (l.length : Int) := rfl
  unfold impl_HashMore.f
  rw [areShort1, s1, Option.bind_some, hashOK_St l (by omega), Option.bind_some, hN, decide_eq_false (by omega), (more_St l hl t (by omega) (by omega)).1]
  rfl
theorem digest_eq (t : ByteArray) (h : t.size ≤ 900000000) : impl_digest.f t = some (strOfNums (shaL (bytesOf t))) ∧ spec_l01Of.f t = some (strOfNums (shaL (bytesOf t))) := by
  have h0 : isB [] := fun b hb => by simp at hb
  have hm := more_St [] h0 t (by simp) (by omega)
  rw [List.nil_append] at hm
  have hs := sum_St (bytesOf t) (bytesOf_isB t) (by rw [bytesOf_len]; omega)
  constructor
  · unfold impl_digest.f
    rw [new_i, Option.bind_some, hm.1, Option.bind_some, hs.1]; rfl
  · unfold spec_l01Of.f
    rw [new_s, Option.bind_some, hm.2, Option.bind_some, hs.2]; rfl
theorem pure_laws_FnHash (x0 : List Int) (x1 : List Int) (g0 : (x0.length ≤ maxLen ∧ ∀ y : Int, y ∈ x0 → ((Lit.int .u8 y).wf = true))) (g1 : (x1.length ≤ maxLen ∧ ∀ y : Int, y ∈ x1 → ((Lit.int .u8 y).wf = true))) : laws_FnHash.f x0 x1 = some true := by
  unfold laws_FnHash.f
  by_cases c0 : (x0.length : Int) > 1048576
  · rw [decide_eq_true c0]; rfl
  by_cases c1 : (x1.length : Int) > 1048576
  · rw [decide_eq_true c1, decide_eq_false c0]; rfl
  rw [decide_eq_false c0, decide_eq_false c1]
  simp only [cond_false, Option.bind_some]
  have hb0 : isB x0 := fun b hb => wf_u8 (g0.2 b hb)
  have hb1 : isB x1 := fun b hb => wf_u8 (g1.2 b hb)
  obtain ⟨u, eU, hU⟩ := textOf_some x0 (by omega) hb0
  obtain ⟨w, eW, hW⟩ := textOf_some x1 (by omega) hb1
  obtain ⟨t, ht⟩ : ∃ t, t = u ++ w := ⟨_, rfl⟩
  have hT : t.size ≤ 400 := by rw [ht, ByteArray.size_append]; omega
  have hB := bytesOf_isB t
  have hl := bytesOf_len t
  obtain ⟨d1, d2⟩ := digest_eq t (by omega)
  have s1 : shortT t = true := decide_eq_true (by omega)
  have e1 : impl_HashOf.f t = some (strOfNums (shaL (bytesOf t)), 0) := by
    unfold impl_HashOf.f
    rw [areShort1, s1, Option.bind_some, d1]; rfl
  have e2 : spec_HashOf.f t = some (strOfNums (shaL (bytesOf t)), 0) := by
    unfold spec_HashOf.f
    rw [decide_eq_false (by omega), d2]; rfl
  obtain ⟨i, eI, i0, i1⟩ := at_some x1 0 ((t.size : Int) + 1) (by omega) hb1 (by omega) (by omega)
  obtain ⟨v, eV, v0, v1⟩ := at_some x1 1 ((t.size : Int) - i + 1) (by omega) hb1 (by omega) (by omega)
  obtain ⟨i, rfl⟩ := Int.eq_ofNat_of_zero_le i0
  obtain ⟨v, rfl⟩ := Int.eq_ofNat_of_zero_le v0
  have hi : i ≤ t.size := by omega
  have hv : i + v ≤ t.size := by omega
  have w1 : w64 ((t.size : Int) + 1) = (t.size : Int) + 1 := w64_id (by omega) (by omega)
  have w2 : w64 ((t.size : Int) - (i : Int)) = (t.size : Int) - (i : Int) := w64_id (by omega) (by omega)
  have w3 : w64 ((t.size : Int) - (i : Int) + 1) = (t.size : Int) - (i : Int) + 1 := w64_id (by omega) (by omega)
  have w4 : w64 ((i : Int) + (v : Int)) = ((i + v : Nat) : Int) := w64n _ _ (by omega)
  have h0 : isB [] := fun b hb => by simp at hb
  -- the three pieces
  have z1 : (t.extract 0 i).size = i := by rw [ByteArray.size_extract]; omega
  have z2 : (t.extract i (i + v)).size = v := by rw [ByteArray.size_extract]; omega
  have z3 : (t.extract (i + v) t.size).size = t.size - (i + v) := by rw [ByteArray.size_extract]; omega
  have b1 : bytesOf (t.extract 0 i) = (bytesOf t).take i := by rw [bytesOf_extract]; simp
  have b2 : (bytesOf t).take i ++ bytesOf (t.extract i (i + v)) = (bytesOf t).take (i + v) := by
    rw [bytesOf_extract, show i + v - i = v by omega, List.take_add]
  have b3 : (bytesOf t).take (i + v) ++ bytesOf (t.extract (i + v) t.size) = bytesOf t := by
    rw [bytesOf_extract, List.take_of_length_le (l := (bytesOf t).drop (i + v)) (by rw [List.length_drop]; omega), List.take_append_drop]
  have m1 := hashMore_St [] h0 (t.extract 0 i) (by simp) (by omega)
  rw [List.nil_append, b1] at m1
  have m2 := hashMore_St ((bytesOf t).take i) (isB_take hB i) (t.extract i (i + v)) (by rw [List.length_take]; omega) (by omega)
  rw [b2] at m2
  have m3 := hashMore_St ((bytesOf t).take (i + v)) (isB_take hB _) (t.extract (i + v) t.size) (by rw [List.length_take]; omega) (by omega)
  rw [b3] at m3
  have m4 := hashOK_St (bytesOf t) (by omega)
  have m5 : impl_HashSum.f (St (bytesOf t)) = some (strOfNums (shaL (bytesOf t)), 0) := by
    unfold impl_HashSum.f
    rw [m4, Option.bind_some, (sum_St (bytesOf t) hB (by omega)).1]; rfl
  have hN : (St (bytesOf t)).N = (t.size : Int) := by rw [← hl]; rfl
  have hz : (((strOfNums (shaL (bytesOf t))).size : Int) == 32) = true := by rw [strOfNums_size, shaL_len]; rfl
  have q00 : ((0 : Int) == 0) = true := rfl
  rw [eU, eW, Option.bind_some, Option.bind_some, if_pos (by omega), ← ht, e1, e2, Option.bind_some, Option.bind_some, w1, eI, Option.bind_some, w2, w3, eV, Option.bind_some, new_i, Option.bind_some, if_pos (by omega), Int.toNat_natCast, m1, Option.bind_some, w4, if_pos (by omega), Int.toNat_natCast]
  simp only
  rw [m2, Option.bind_some, if_pos (by omega)]
  simp only
  rw [m3, Option.bind_some]
  simp only
  rw [m5, Option.bind_some]
  simp only [q00, bs_self, hz, m4, hN, cond_true, Option.bind_some, beq_self_eq_true]
theorem cz5 : Try.prog.cellsOf 5 = 1 := by kernel_rfl
theorem own : ownKnob Try.prog.godebug = none := by kernel_rfl
theorem laidOut : laidOutB Try.prog = true := by kernel_rfl
set_option maxRecDepth 100000 in
set_option maxHeartbeats 4000000 in
theorem lifted (os : Os) (started : os.Started) (H : Type) (enc : TypeId × Value → H) :
    ReturnsInHanded {} Try.checked os 3 .any (Rows.fnHashSpec.pre6 enc Try.prog Try.f3 Rows.fnHashRow.domain false) (Rows.fnHashSpec.post enc Try.prog Try.f3 false true false false) := by
  refine returnsInHanded_of_change_sized (C := Try.checked) own started (by kernel_rfl) Try.func3
    (ChangeSpec.witness6 (enc := enc) (C := Try.checked) false ⟨#[], #[.slice none 0 0, .slice none 0 0], []⟩ 8 (by kernel_rfl) (by kernel_rfl) (by kernel_rfl) (by kernel_rfl)) ?_
  intro W base args ds gs before hval0 hW hcnd hsz0 _
  have hval : ∀ (j : Nat) t v, Try.f3.params[j]? = some t → args[j]? = some v → Value.okWide Try.prog W .any base t v := hval0
  have hW' := hW
  obtain ⟨p, q, hA0, hV, rfl, hfz, hnd⟩ := hW
  have hA : DataW.TrodAll enc Try.prog W 0 (fun _ => true) true Try.f3.params.toList args.toList ds p := hA0
  rw [Try.params3] at hA hval
  obtain ⟨v0, vs0, d0, ds0, p0, q0, hargs, rfl, rfl, h0, r0⟩ := trodAll_cons hA
  obtain ⟨v1, vs1, d1, ds1, p1, q1, rfl, rfl, rfl, h1, r1⟩ := trodAll_cons r0
  obtain ⟨rfl, rfl, rfl⟩ := trodAll_nil r1
  obtain rfl : args = #[v0, v1] := by cases args; simp_all
  obtain ⟨rfl, rfl⟩ := trodVars_none hV
  have k0 := h0
  have lt0 : ∀ x ∈ p0, x.block < W.heap.size := by obtain ⟨m, hm⟩ := k0; exact DataW.trod_lt m _ _ _ hm
  obtain ⟨f0, hf0⟩ := h0
  obtain ⟨y0, hy0, hg0⟩ := (opens_sl Try.underlying22 cz5 (by decide) (opens_int Try.underlying5)) H enc f0 _ _ hf0
  obtain ⟨A0_, p0_, e0, w0_⟩ : ∃ A p, v0 = Value.slice A y0.length p ∧ View (Lay.int .u8) A p y0 (heapC W) := by
    obtain ⟨A, n, c, rfl⟩ := okWide_slice Try.underlying22 (hval 0 22 v0 rfl rfl)
    obtain ⟨v, hv, A, p, rfl, hh⟩ := hy0
    simp only [Value.cells] at hv
    exact ⟨A, p, by simpa using hv, hh⟩
  subst e0
  have k1 := h1
  have lt1 : ∀ x ∈ p1, x.block < W.heap.size := by obtain ⟨m, hm⟩ := k1; exact DataW.trod_lt m _ _ _ hm
  obtain ⟨f1, hf1⟩ := h1
  obtain ⟨y1, hy1, hg1⟩ := (opens_sl Try.underlying22 cz5 (by decide) (opens_int Try.underlying5)) H enc f1 _ _ hf1
  obtain ⟨A1_, p1_, e1, w1_⟩ : ∃ A p, v1 = Value.slice A y1.length p ∧ View (Lay.int .u8) A p y1 (heapC W) := by
    obtain ⟨A, n, c, rfl⟩ := okWide_slice Try.underlying22 (hval 1 22 v1 rfl rfl)
    obtain ⟨v, hv, A, p, rfl, hh⟩ := hy1
    simp only [Value.cells] at hv
    exact ⟨A, p, by simpa using hv, hh⟩
  subst e1
  clear hA0 hval0 hsz0
  refine (laws_FnHash_t W A0_ p0_ y0 (heapC W) w0_ (heapC_has W) A1_ p1_ y1 (heapC W) w1_ (heapC_has W) true (pure_laws_FnHash y0 y1 hg0 hg1)).mono fun e W' ⟨v, he, hv, hS⟩ => ?_
  subst he; subst hv
  have bel := hS.below
  exact ⟨_, rfl, _, _, _, [], _, [], hW', trodAll_mk1 (shutB Try.underlying4 _), (trodAll_cons_mk (Below.trod laidOut (by kernel_rfl) (of_decide_eq_true (by kernel_rfl)) k0 bel lt0) (trodAll_cons_mk (Below.trod laidOut (by kernel_rfl) (of_decide_eq_true (by kernel_rfl)) k1 bel lt1) trodAll_mk0)), rfl, bel.frame _, fun h => by cases h⟩
theorem over : Rows.fnHashRow.holds Try.pinned (OpenSpec.ofChange Rows.fnHashSpec) :=
  OpenClaim.holds_of_wide 3 Try.f3 rfl rfl rfl rfl rfl rfl rfl ⟨rfl, rfl, rfl, rfl, rfl⟩ rfl rfl rfl rfl rfl (by kernel_rfl) Try.func3 (by kernel_rfl)
    (of_decide_eq_true (by kernel_rfl)) (by unfold Func.isWrapper; first | (rw [if_pos (by decide +kernel)]; kernel_rfl) | (rw [if_neg (by decide +kernel)]; exact ⟨rfl, rfl⟩))
    (fun os started H enc _ => lifted os started H enc)
theorem fnHash_holds : Rows.FnHashSaid := over
end Go.Proofs.Yteklgnhfgdhdiaa.RFHash
