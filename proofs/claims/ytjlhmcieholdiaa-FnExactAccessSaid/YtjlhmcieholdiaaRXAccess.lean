/- FnExactAccess: for every input the law returns true, and its arguments read as before. No conditions but the row's own. -/
import Derived.Test.YtjlhmcieholdiaaPXAccess
namespace Go.Proofs.Ytjlhmcieholdiaa.RXAccess
open Go Go.Z Go.Proofs Go.MuLone Go.ChangeShapes Go.WideShapes Go.ChangeAt Go.RowKit
set_option linter.unusedVariables false
set_option linter.unusedSimpArgs false
theorem ex_Access (x0 : S_Oram) (x1 : Int) (x2 : Bool) (x3 x4 : Int) (g0 : ((x0.Pos.length ≤ maxLen ∧ ∀ y : Int, y ∈ x0.Pos → ((Lit.int .i64 y).wf = true)) ∧ (x0.Stash.length ≤ maxLen ∧ ∀ y : S_Block, y ∈ x0.Stash → (((Lit.int .i64 y.Id).wf = true) ∧ ((Lit.int .i64 y.Leaf).wf = true) ∧ ((Lit.int .i64 y.Value).wf = true))) ∧ (x0.Buckets.length ≤ maxLen ∧ ∀ y : List S_Block, y ∈ x0.Buckets → (y.length ≤ maxLen ∧ ∀ y1 : S_Block, y1 ∈ y → (((Lit.int .i64 y1.Id).wf = true) ∧ ((Lit.int .i64 y1.Leaf).wf = true) ∧ ((Lit.int .i64 y1.Value).wf = true)))))) (h0 : (x0.Pos.length ≤ 1048576) ∧ (x0.Stash.length ≤ 1048576) ∧ (x0.Buckets.length ≤ 1048576 ∧ ∀ z0 : List S_Block, z0 ∈ x0.Buckets → (z0.length ≤ 1048576))) (g1 : ((Lit.int .i64 x1).wf = true)) (g2 : True) (g3 : ((Lit.int .i64 x3).wf = true)) (g4 : ((Lit.int .i64 x4).wf = true)) : ∃ r, spec_Access.f x0 x1 x2 x3 x4 = some r ∧ impl_Access.f x0 x1 x2 x3 x4 = some r ∧ ((r.1.Pos.length ≤ 1048576) ∧ (r.1.Stash.length ≤ 1048576) ∧ (r.1.Buckets.length ≤ 1048576 ∧ ∀ z0 : List S_Block, z0 ∈ r.1.Buckets → (z0.length ≤ 1048576))) := by
  obtain ⟨f1, f2, f3, f4⟩ := h0
  unfold spec_Access.f impl_Access.f
  simp only [spec_OramOK_eq x0 (by omega) f3, impl_OramOK_eq x0 (by omega) f2 f4, Option.bind_some]
  cases ho : oramB x0
  · exact ⟨_, rfl, rfl, by simp⟩
  have hI := (oramI_iff x0).1 ho
  simp only [Bool.not_true, cond_false, l01In_eq, isId_eq, isLeaf_eq, isValue_eq, Option.bind_some]
  cases h1 : inB x1 0 11
  · exact ⟨_, rfl, rfl, by simp⟩
  cases h4 : inB x4 0 7
  · exact ⟨_, rfl, rfl, by simp⟩
  cases h3 : inB x3 0 999999
  · exact ⟨_, rfl, rfl, by simp⟩
  have hi := inB_iff.1 h1
  have hlf := inB_iff.1 h4
  simp only [Bool.not_true, cond_false, Option.bind_some, l08Access_eq x0 x1 x2 x3 x4 hI hi hlf, oramAccess_eq x0 x1 x2 x3 x4 hI hi hlf]
  obtain ⟨hg2, hg1⟩ := gatO_small hI (id := x1)
  have hol := other_len x1 (gatO x0 x1).1
  obtain ⟨e1, e2⟩ := evP_small (pathL (x0.Pos.getD x1.toNat 0)) (otherB x1 (gatO x0 x1).1 ++ [newB x1 x2 x3 x4 (valueL (gatO x0 x1).1 x1)]) (gatO x0 x1).2 hg2 4
  refine ⟨_, rfl, rfl, ?_⟩
  simp only [accR, evO, List.length_set]
  have e3 := e1.1
  simp only [List.length_append, List.length_cons, List.length_nil] at e2
  refine ⟨by have := hI.lv.1; omega, by omega, by omega, fun y hy => ?_⟩
  obtain ⟨j, hj, rfl⟩ := List.mem_iff_getElem.1 hy
  have := e1.2 j
  rw [getD_lt hj] at this; omega

theorem pure_laws_FnExactAccess (x0 : S_Oram) (x1 : Int) (x2 : Bool) (x3 : Int) (x4 : Int) (g0 : ((x0.Pos.length ≤ maxLen ∧ ∀ y : Int, y ∈ x0.Pos → ((Lit.int .i64 y).wf = true)) ∧ (x0.Stash.length ≤ maxLen ∧ ∀ y : S_Block, y ∈ x0.Stash → (((Lit.int .i64 y.Id).wf = true) ∧ ((Lit.int .i64 y.Leaf).wf = true) ∧ ((Lit.int .i64 y.Value).wf = true))) ∧ (x0.Buckets.length ≤ maxLen ∧ ∀ y : List S_Block, y ∈ x0.Buckets → (y.length ≤ maxLen ∧ ∀ y1 : S_Block, y1 ∈ y → (((Lit.int .i64 y1.Id).wf = true) ∧ ((Lit.int .i64 y1.Leaf).wf = true) ∧ ((Lit.int .i64 y1.Value).wf = true)))))) (g1 : ((Lit.int .i64 x1).wf = true)) (g2 : True) (g3 : ((Lit.int .i64 x3).wf = true)) (g4 : ((Lit.int .i64 x4).wf = true)) : laws_FnExactAccess.f x0 x1 x2 x3 x4 = some true := by
  simp only [laws_FnExactAccess.f, Option.bind_some]
  obtain ⟨m0, e0, h0⟩ := ok_laws_szOram x0 1048576 (by omega) (by omega) g0
  simp only [e0, Option.bind_some]
  rcases h0 with h0 | ⟨p0, q0, h0⟩
  · rw [decide_eq_true h0]; rfl
  rw [decide_eq_false (show ¬ m0 < 0 by omega)]; simp only [cond_false]
  obtain ⟨r, hs, hi, hl⟩ := ex_Access x0 x1 x2 x3 x4 g0 h0 g1 g2 g3 g4
  obtain ⟨⟨r0_Pos, r0_Stash, r0_Buckets⟩, r1, r2, r3⟩ := r
  obtain ⟨k0, a0_0, a0_1, a0_2, ek0, pk0, qk0, _⟩ := mk_laws_markOram x0 1 (by omega) (by omega) (⟨h0.1, h0.2.1, ⟨h0.2.2.1, fun z hz => (h0.2.2.2 z hz)⟩⟩)
  obtain ⟨m_0, b0_0, b0_1, b0_2, em0, pm0, qm0, rm0⟩ := mk_laws_markOram (⟨r0_Pos, r0_Stash, r0_Buckets⟩ : S_Oram) 1 (by omega) (by omega) hl
  have hh0 := rm0 (⟨b0_0, b0_1, b0_2⟩ : S_Oram) rfl rfl rfl
  simp only [id_laws_toOram x0 h0, reflL_laws_eqOram x0 (⟨h0.1, h0.2.1, ⟨h0.2.2.1, fun z hz => (h0.2.2.2 z hz)⟩⟩), reflL_laws_eqOram (⟨r0_Pos, r0_Stash, r0_Buckets⟩ : S_Oram) hl, ek0, hh0, em0, hs, hi, decide_eq_false (show ¬ k0 < 0 by omega), decide_eq_false (show ¬ m_0 < 0 by omega), Option.bind_some, bne_self_eq_false, bs_self, beq_self_eq_true, Bool.not_true, cond_false, cond_true]
theorem cz3 : Try.prog.cellsOf 3 = 1 := by kernel_rfl
theorem cz22 : Try.prog.cellsOf 22 = 1 := by kernel_rfl
theorem cz23 : Try.prog.cellsOf 23 = 1 := by kernel_rfl
theorem cz24 : Try.prog.cellsOf 24 = 1 := by kernel_rfl
theorem cz26 : Try.prog.cellsOf 26 = 3 := by kernel_rfl
theorem cz135 : Try.prog.cellsOf 135 = 3 := by kernel_rfl
theorem op135 {w : World} : Opens Try.prog w 135 L_Block (fun x => ((Lit.int .i64 x.Id).wf = true) ∧ ((Lit.int .i64 x.Leaf).wf = true) ∧ ((Lit.int .i64 x.Value).wf = true)) :=
  (opens_struct Try.underlying135 cz135 (opensF_cons rfl cz3 (opens_int Try.underlying3) (opensF_cons rfl cz3 (opens_int Try.underlying3) (opensF_one cz3 (opens_int Try.underlying3))))).conv (fun y cs c h g => ⟨⟨y.1, y.2.1, y.2.2⟩, by obtain ⟨_, _, rfl, rfl, _, _, rfl, rfl, rfl⟩ := h; rfl, g⟩)
theorem op26 {w : World} : Opens Try.prog w 26 L_laws_Oram (fun x => (x.Pos.length ≤ maxLen ∧ ∀ y : Int, y ∈ x.Pos → ((Lit.int .i64 y).wf = true)) ∧ (x.Stash.length ≤ maxLen ∧ ∀ y : S_Block, y ∈ x.Stash → (((Lit.int .i64 y.Id).wf = true) ∧ ((Lit.int .i64 y.Leaf).wf = true) ∧ ((Lit.int .i64 y.Value).wf = true))) ∧ (x.Buckets.length ≤ maxLen ∧ ∀ y : List S_Block, y ∈ x.Buckets → (y.length ≤ maxLen ∧ ∀ y1 : S_Block, y1 ∈ y → (((Lit.int .i64 y1.Id).wf = true) ∧ ((Lit.int .i64 y1.Leaf).wf = true) ∧ ((Lit.int .i64 y1.Value).wf = true))))) :=
  (opens_struct Try.underlying26 cz26 (opensF_cons rfl cz22 (opens_sl Try.underlying22 cz3 (by decide) (opens_int Try.underlying3)) (opensF_cons rfl cz23 (opens_sl Try.underlying23 cz135 (by decide) op135) (opensF_one cz24 (opens_sl Try.underlying24 cz23 (by decide) (opens_sl Try.underlying23 cz135 (by decide) op135)))))).conv (fun y cs c h g => ⟨⟨y.1, y.2.1, y.2.2⟩, h, g⟩)
theorem own : ownKnob Try.prog.godebug = none := by kernel_rfl
theorem laidOut : laidOutB Try.prog = true := by kernel_rfl
set_option maxRecDepth 100000 in
set_option maxHeartbeats 4000000 in
theorem lifted (os : Os) (started : os.Started) (H : Type) (enc : TypeId × Value → H) :
    ReturnsInHanded {} Try.checked os 3 .any (Rows.fnExactAccessSpec.pre6 enc Try.prog Try.f3 Rows.fnExactAccessRow.domain false) (Rows.fnExactAccessSpec.post enc Try.prog Try.f3 false true false false) := by
  refine returnsInHanded_of_change_sized (C := Try.checked) own started (by kernel_rfl) Try.func3
    (ChangeSpec.witness6 (enc := enc) (C := Try.checked) false ⟨#[], #[.agg #[.slice none 0 0, .slice none 0 0, .slice none 0 0], .int .i64 0, .bool false, .int .i64 0, .int .i64 0], []⟩ 8 (by kernel_rfl) (by kernel_rfl) (by kernel_rfl) (by kernel_rfl)) ?_
  intro W base args ds gs before hval0 hW hcnd hsz0 _
  have hval : ∀ (j : Nat) t v, Try.f3.params[j]? = some t → args[j]? = some v → Value.okWide Try.prog W .any base t v := hval0
  have hW' := hW
  obtain ⟨p, q, hA0, hV, rfl, hfz, hnd⟩ := hW
  have hA : DataW.TrodAll enc Try.prog W 0 (fun _ => true) true Try.f3.params.toList args.toList ds p := hA0
  rw [Try.params3] at hA hval
  obtain ⟨v0, vs0, d0, ds0, p0, q0, hargs, rfl, rfl, h0, r0⟩ := trodAll_cons hA
  obtain ⟨v1, vs1, d1, ds1, p1, q1, rfl, rfl, rfl, h1, r1⟩ := trodAll_cons r0
  obtain ⟨v2, vs2, d2, ds2, p2, q2, rfl, rfl, rfl, h2, r2⟩ := trodAll_cons r1
  obtain ⟨v3, vs3, d3, ds3, p3, q3, rfl, rfl, rfl, h3, r3⟩ := trodAll_cons r2
  obtain ⟨v4, vs4, d4, ds4, p4, q4, rfl, rfl, rfl, h4, r4⟩ := trodAll_cons r3
  obtain ⟨rfl, rfl, rfl⟩ := trodAll_nil r4
  obtain rfl : args = #[v0, v1, v2, v3, v4] := by cases args; simp_all
  obtain ⟨rfl, rfl⟩ := trodVars_none hV
  have k0 := h0
  have lt0 : ∀ x ∈ p0, x.block < W.heap.size := by obtain ⟨m, hm⟩ := k0; exact DataW.trod_lt m _ _ _ hm
  obtain ⟨f0, hf0⟩ := h0
  obtain ⟨y0, hy0, hg0⟩ := op26 H enc f0 _ _ hf0
  obtain ⟨cs0, rfl, _⟩ := okWide_struct Try.underlying26 (hval 0 26 v0 rfl rfl)
  obtain ⟨l0, hl0⟩ : ∃ l, cs0.toList = l := ⟨_, rfl⟩
  have hy0 : (L_laws_Oram).view y0 cs0.toList (heapC W) := hy0
  rw [hl0] at hy0
  obtain ⟨_, _, rfl, ⟨_, rfl, A0_0, p0_0, rfl, w0_0⟩, ⟨_, _, rfl, ⟨_, rfl, A0_1, p0_1, rfl, w0_1⟩, ⟨_, rfl, A0_2, p0_2, rfl, w0_2⟩⟩⟩ := hy0
  obtain rfl : cs0 = #[.slice A0_0 y0.Pos.length p0_0, .slice A0_1 y0.Stash.length p0_1, .slice A0_2 y0.Buckets.length p0_2] := Array.ext' hl0
  have k1 := h1
  have lt1 : ∀ x ∈ p1, x.block < W.heap.size := by obtain ⟨m, hm⟩ := k1; exact DataW.trod_lt m _ _ _ hm
  obtain ⟨f1, hf1⟩ := h1
  obtain ⟨y1, hy1, hg1⟩ := (opens_int Try.underlying3) H enc f1 _ _ hf1
  obtain rfl : v1 = .int .i64 y1 := by
    obtain hv := (hval 1 3 v1 rfl rfl)
    simp only [Value.okWide, Try.underlying3, Cell.okWide] at hv
    cases v1 <;> simp_all [Cell.ok, Value.cells, Lay.int, Lay.bool, Lay.str, Lay.flat]
  have k2 := h2
  have lt2 : ∀ x ∈ p2, x.block < W.heap.size := by obtain ⟨m, hm⟩ := k2; exact DataW.trod_lt m _ _ _ hm
  obtain ⟨f2, hf2⟩ := h2
  obtain ⟨y2, hy2, hg2⟩ := (opens_bool Try.underlying4) H enc f2 _ _ hf2
  obtain rfl : v2 = .bool y2 := by
    obtain hv := (hval 2 4 v2 rfl rfl)
    simp only [Value.okWide, Try.underlying4, Cell.okWide] at hv
    cases v2 <;> simp_all [Cell.ok, Value.cells, Lay.int, Lay.bool, Lay.str, Lay.flat]
  have k3 := h3
  have lt3 : ∀ x ∈ p3, x.block < W.heap.size := by obtain ⟨m, hm⟩ := k3; exact DataW.trod_lt m _ _ _ hm
  obtain ⟨f3, hf3⟩ := h3
  obtain ⟨y3, hy3, hg3⟩ := (opens_int Try.underlying3) H enc f3 _ _ hf3
  obtain rfl : v3 = .int .i64 y3 := by
    obtain hv := (hval 3 3 v3 rfl rfl)
    simp only [Value.okWide, Try.underlying3, Cell.okWide] at hv
    cases v3 <;> simp_all [Cell.ok, Value.cells, Lay.int, Lay.bool, Lay.str, Lay.flat]
  have k4 := h4
  have lt4 : ∀ x ∈ p4, x.block < W.heap.size := by obtain ⟨m, hm⟩ := k4; exact DataW.trod_lt m _ _ _ hm
  obtain ⟨f4, hf4⟩ := h4
  obtain ⟨y4, hy4, hg4⟩ := (opens_int Try.underlying3) H enc f4 _ _ hf4
  obtain rfl : v4 = .int .i64 y4 := by
    obtain hv := (hval 4 3 v4 rfl rfl)
    simp only [Value.okWide, Try.underlying3, Cell.okWide] at hv
    cases v4 <;> simp_all [Cell.ok, Value.cells, Lay.int, Lay.bool, Lay.str, Lay.flat]
  clear hA0 hval0 hsz0
  refine (laws_FnExactAccess_t W y0 A0_0 p0_0 (heapC W) w0_0 (heapC_has W) A0_1 p0_1 (heapC W) w0_1 (heapC_has W) A0_2 p0_2 (heapC W) w0_2 (heapC_has W) y1 y2 y3 y4 true (pure_laws_FnExactAccess y0 y1 y2 y3 y4 hg0 hg1 hg2 hg3 hg4)).mono fun e W' ⟨v, he, hv, hS⟩ => ?_
  subst he; subst hv
  have bel := hS.below
  exact ⟨_, rfl, _, _, _, [], _, [], hW', trodAll_mk1 (shutB Try.underlying4 _), (trodAll_cons_mk (Below.trod laidOut (by kernel_rfl) (of_decide_eq_true (by kernel_rfl)) k0 bel lt0) (trodAll_cons_mk (Below.trod laidOut (by kernel_rfl) (of_decide_eq_true (by kernel_rfl)) k1 bel lt1) (trodAll_cons_mk (Below.trod laidOut (by kernel_rfl) (of_decide_eq_true (by kernel_rfl)) k2 bel lt2) (trodAll_cons_mk (Below.trod laidOut (by kernel_rfl) (of_decide_eq_true (by kernel_rfl)) k3 bel lt3) (trodAll_cons_mk (Below.trod laidOut (by kernel_rfl) (of_decide_eq_true (by kernel_rfl)) k4 bel lt4) trodAll_mk0))))), rfl, bel.frame _, fun h => by cases h⟩
theorem over : Rows.fnExactAccessRow.holds Try.pinned (OpenSpec.ofChange Rows.fnExactAccessSpec) :=
  OpenClaim.holds_of_wide 3 Try.f3 rfl rfl rfl rfl rfl rfl rfl ⟨rfl, rfl, rfl, rfl, rfl⟩ rfl rfl rfl rfl rfl (by kernel_rfl) Try.func3 (by kernel_rfl)
    (of_decide_eq_true (by kernel_rfl)) (by unfold Func.isWrapper; first | (rw [if_pos (by decide +kernel)]; kernel_rfl) | (rw [if_neg (by decide +kernel)]; exact ⟨rfl, rfl⟩))
    (fun os started H enc _ => lifted os started H enc)
theorem fnExactAccess_holds : Rows.FnExactAccessSaid := over
end Go.Proofs.Ytjlhmcieholdiaa.RXAccess
