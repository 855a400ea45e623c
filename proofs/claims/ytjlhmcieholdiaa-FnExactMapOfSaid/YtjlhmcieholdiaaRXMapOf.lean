/- FnExactMapOf: for every input the law returns true, and its arguments read as before. No conditions but the row's own. -/
import Derived.Test.YtjlhmcieholdiaaPXMapOf
namespace Go.Proofs.Ytjlhmcieholdiaa.RXMapOf
open Go Go.Z Go.Proofs Go.MuLone Go.ChangeShapes Go.WideShapes Go.ChangeAt Go.RowKit
set_option linter.unusedVariables false
set_option linter.unusedSimpArgs false
theorem oram_all (o : S_Oram) (ho : oramB o = true) : impl_Oram_all.f o = some (o.Stash ++ o.Buckets.flatten) ∧ (o.Stash ++ o.Buckets.flatten).length ≤ 12 ∧ ∃ r, goB o.Pos (o.Stash ++ o.Buckets.flatten) [] = some r := by
  unfold oramB at ho
  simp only [Bool.and_eq_true, beq_iff_eq] at ho
  obtain ⟨⟨⟨⟨h1, h2⟩, h3⟩, h4⟩, h5⟩ := ho
  obtain ⟨r, hr⟩ := Option.isSome_iff_exists.1 h5
  have hle := goB_le _ _ r hr
  have h22 : ∀ k, k < o.Buckets.length → (o.Buckets.getD k []).length ≤ 2 := fun k hk => by
    have := List.all_eq_true.1 h4 k (List.mem_range.2 hk)
    simp only [Bool.and_eq_true, decide_eq_true_eq] at this
    exact this.1
  refine ⟨?_, hle, r, hr⟩
  rw [List.length_append] at hle
  unfold impl_Oram_all.f
  rw [concat_eq o.Buckets (by omega) h22, show slices_Clone_impl_Block_impl_Block.f o.Stash = some o.Stash by unfold slices_Clone_impl_Block_impl_Block.f; rw [if_pos (by omega)]]
  simp only [Option.bind_some]
  rw [if_pos (by omega)]
theorem ex_MapOf (x0 : S_Enc) (g0 : ((x0.Keys.length ≤ maxLen ∧ ∀ y1 : Int, y1 ∈ x0.Keys → ((Lit.int .i64 y1).wf = true)) ∧ ((x0.Oram.Pos.length ≤ maxLen ∧ ∀ y : Int, y ∈ x0.Oram.Pos → ((Lit.int .i64 y).wf = true)) ∧ (x0.Oram.Stash.length ≤ maxLen ∧ ∀ y : S_Block, y ∈ x0.Oram.Stash → (((Lit.int .i64 y.Id).wf = true) ∧ ((Lit.int .i64 y.Leaf).wf = true) ∧ ((Lit.int .i64 y.Value).wf = true))) ∧ (x0.Oram.Buckets.length ≤ maxLen ∧ ∀ y : List S_Block, y ∈ x0.Oram.Buckets → (y.length ≤ maxLen ∧ ∀ y1 : S_Block, y1 ∈ y → (((Lit.int .i64 y1.Id).wf = true) ∧ ((Lit.int .i64 y1.Leaf).wf = true) ∧ ((Lit.int .i64 y1.Value).wf = true))))))) (h0 : (x0.Keys.length ≤ 1048576) ∧ ((x0.Oram.Pos.length ≤ 1048576) ∧ (x0.Oram.Stash.length ≤ 1048576) ∧ (x0.Oram.Buckets.length ≤ 1048576 ∧ ∀ z0 : List S_Block, z0 ∈ x0.Oram.Buckets → (z0.length ≤ 1048576)))) : ∃ r, spec_MapOf.f x0 = some r ∧ impl_MapOf.f x0 = some r ∧ (r.1.length ≤ 1048576) := by
  have hk : x0.Keys.length ≤ 1048576 := h0.1
  have hp : x0.Oram.Pos.length ≤ 1048576 := h0.2.1
  have hs : x0.Oram.Stash.length ≤ 1048576 := h0.2.2.1
  have hb : x0.Oram.Buckets.length ≤ 1048576 := h0.2.2.2.1
  have hb2 : ∀ y, y ∈ x0.Oram.Buckets → y.length ≤ 1048576 := h0.2.2.2.2
  unfold spec_MapOf.f impl_MapOf.f
  simp only [spec_EncOK_eq x0 hk (by omega) hb, impl_EncOK_eq x0 hk (by omega) hs hb2, Option.bind_some]
  cases he : (keysB x0.Keys && (((x0.Keys.length : Int) == 11) && oramB x0.Oram))
  case false => exact ⟨_, rfl, rfl, by simp⟩
  simp only [Bool.and_eq_true, beq_iff_eq] at he
  obtain ⟨e1, e2, e3⟩ := he
  obtain ⟨a1, a2, r, a3⟩ := oram_all x0.Oram e3
  have hv := valueL_rng x0.Oram.Pos _ r a3
  have hinv := ent_inv x0.Keys _ e1 (by omega) hv x0.Keys.length (Nat.le_refl _)
  simp only [Bool.not_true, cond_false, l11Map_eq x0 _ rfl e1 (by omega) hv (by omega) hb (fun y hy => by have := hb2 y hy; omega), entries_eq x0 _ a1 (by omega) e1 (by omega) hv, Option.bind_some]
  have := hinv.2.1
  exact ⟨_, rfl, rfl, by first | (dsimp only; omega) | (refine ⟨?_, ?_⟩ <;> (dsimp only; omega)) | simp; omega⟩

theorem pure_laws_FnExactMapOf (x0 : S_Enc) (g0 : ((x0.Keys.length ≤ maxLen ∧ ∀ y1 : Int, y1 ∈ x0.Keys → ((Lit.int .i64 y1).wf = true)) ∧ ((x0.Oram.Pos.length ≤ maxLen ∧ ∀ y : Int, y ∈ x0.Oram.Pos → ((Lit.int .i64 y).wf = true)) ∧ (x0.Oram.Stash.length ≤ maxLen ∧ ∀ y : S_Block, y ∈ x0.Oram.Stash → (((Lit.int .i64 y.Id).wf = true) ∧ ((Lit.int .i64 y.Leaf).wf = true) ∧ ((Lit.int .i64 y.Value).wf = true))) ∧ (x0.Oram.Buckets.length ≤ maxLen ∧ ∀ y : List S_Block, y ∈ x0.Oram.Buckets → (y.length ≤ maxLen ∧ ∀ y1 : S_Block, y1 ∈ y → (((Lit.int .i64 y1.Id).wf = true) ∧ ((Lit.int .i64 y1.Leaf).wf = true) ∧ ((Lit.int .i64 y1.Value).wf = true))))))) : laws_FnExactMapOf.f x0 = some true := by
  simp only [laws_FnExactMapOf.f, Option.bind_some]
  obtain ⟨m0, e0, h0⟩ := ok_laws_szEnc x0 1048576 (by omega) (by omega) g0
  simp only [e0, Option.bind_some]
  rcases h0 with h0 | ⟨p0, q0, h0⟩
  · rw [decide_eq_true h0]; rfl
  rw [decide_eq_false (show ¬ m0 < 0 by omega)]; simp only [cond_false]
  obtain ⟨r, hs, hi, hl⟩ := ex_MapOf x0 g0 h0
  obtain ⟨r0, r1⟩ := r
  obtain ⟨k0, a0_0, a0_1, a0_2, a0_3, ek0, pk0, qk0, _⟩ := mk_laws_markEnc x0 1 (by omega) (by omega) (⟨h0.1, ⟨h0.2.1, h0.2.2.1, ⟨h0.2.2.2.1, fun z hz => (h0.2.2.2.2 z hz)⟩⟩⟩)
  obtain ⟨m_0, b0_0, em0, pm0, qm0, _, rm0⟩ := mk_laws_markEntryS r0 1 (by omega) (by omega) hl
  simp only [id_laws_toEnc x0 h0, reflL_laws_eqEnc x0 (⟨h0.1, ⟨h0.2.1, h0.2.2.1, ⟨h0.2.2.2.1, fun z hz => (h0.2.2.2.2 z hz)⟩⟩⟩), reflL_laws_eqEntryS r0 hl, ek0, rm0, em0, hs, hi, decide_eq_false (show ¬ k0 < 0 by omega), decide_eq_false (show ¬ m_0 < 0 by omega), Option.bind_some, bne_self_eq_false, bs_self, beq_self_eq_true, Bool.not_true, cond_false, cond_true]
theorem cz3 : Try.prog.cellsOf 3 = 1 := by kernel_rfl
theorem cz22 : Try.prog.cellsOf 22 = 1 := by kernel_rfl
theorem cz23 : Try.prog.cellsOf 23 = 1 := by kernel_rfl
theorem cz24 : Try.prog.cellsOf 24 = 1 := by kernel_rfl
theorem cz26 : Try.prog.cellsOf 26 = 3 := by kernel_rfl
theorem cz48 : Try.prog.cellsOf 48 = 4 := by kernel_rfl
theorem cz135 : Try.prog.cellsOf 135 = 3 := by kernel_rfl
theorem op135 {w : World} : Opens Try.prog w 135 L_Block (fun x => ((Lit.int .i64 x.Id).wf = true) ∧ ((Lit.int .i64 x.Leaf).wf = true) ∧ ((Lit.int .i64 x.Value).wf = true)) :=
  (opens_struct Try.underlying135 cz135 (opensF_cons rfl cz3 (opens_int Try.underlying3) (opensF_cons rfl cz3 (opens_int Try.underlying3) (opensF_one cz3 (opens_int Try.underlying3))))).conv (fun y cs c h g => ⟨⟨y.1, y.2.1, y.2.2⟩, by obtain ⟨_, _, rfl, rfl, _, _, rfl, rfl, rfl⟩ := h; rfl, g⟩)
theorem op26 {w : World} : Opens Try.prog w 26 L_laws_Oram (fun x => (x.Pos.length ≤ maxLen ∧ ∀ y : Int, y ∈ x.Pos → ((Lit.int .i64 y).wf = true)) ∧ (x.Stash.length ≤ maxLen ∧ ∀ y : S_Block, y ∈ x.Stash → (((Lit.int .i64 y.Id).wf = true) ∧ ((Lit.int .i64 y.Leaf).wf = true) ∧ ((Lit.int .i64 y.Value).wf = true))) ∧ (x.Buckets.length ≤ maxLen ∧ ∀ y : List S_Block, y ∈ x.Buckets → (y.length ≤ maxLen ∧ ∀ y1 : S_Block, y1 ∈ y → (((Lit.int .i64 y1.Id).wf = true) ∧ ((Lit.int .i64 y1.Leaf).wf = true) ∧ ((Lit.int .i64 y1.Value).wf = true))))) :=
  (opens_struct Try.underlying26 cz26 (opensF_cons rfl cz22 (opens_sl Try.underlying22 cz3 (by decide) (opens_int Try.underlying3)) (opensF_cons rfl cz23 (opens_sl Try.underlying23 cz135 (by decide) op135) (opensF_one cz24 (opens_sl Try.underlying24 cz23 (by decide) (opens_sl Try.underlying23 cz135 (by decide) op135)))))).conv (fun y cs c h g => ⟨⟨y.1, y.2.1, y.2.2⟩, h, g⟩)
theorem op48 {w : World} : Opens Try.prog w 48 L_laws_Enc (fun x => (x.Keys.length ≤ maxLen ∧ ∀ y1 : Int, y1 ∈ x.Keys → ((Lit.int .i64 y1).wf = true)) ∧ ((x.Oram.Pos.length ≤ maxLen ∧ ∀ y : Int, y ∈ x.Oram.Pos → ((Lit.int .i64 y).wf = true)) ∧ (x.Oram.Stash.length ≤ maxLen ∧ ∀ y : S_Block, y ∈ x.Oram.Stash → (((Lit.int .i64 y.Id).wf = true) ∧ ((Lit.int .i64 y.Leaf).wf = true) ∧ ((Lit.int .i64 y.Value).wf = true))) ∧ (x.Oram.Buckets.length ≤ maxLen ∧ ∀ y : List S_Block, y ∈ x.Oram.Buckets → (y.length ≤ maxLen ∧ ∀ y1 : S_Block, y1 ∈ y → (((Lit.int .i64 y1.Id).wf = true) ∧ ((Lit.int .i64 y1.Leaf).wf = true) ∧ ((Lit.int .i64 y1.Value).wf = true)))))) :=
  (opens_struct Try.underlying48 cz48 (opensF_cons rfl cz22 (opens_sl Try.underlying22 cz3 (by decide) (opens_int Try.underlying3)) (opensF_one cz26 op26))).conv (fun y cs c h g => ⟨⟨y.1, y.2⟩, h, g⟩)
theorem own : ownKnob Try.prog.godebug = none := by kernel_rfl
theorem laidOut : laidOutB Try.prog = true := by kernel_rfl
set_option maxRecDepth 100000 in
theorem lifted (os : Os) (started : os.Started) (H : Type) (enc : TypeId × Value → H) :
    ReturnsInHanded {} Try.checked os 5 .any (Rows.fnExactMapOfSpec.pre6 enc Try.prog Try.f5 Rows.fnExactMapOfRow.domain false) (Rows.fnExactMapOfSpec.post enc Try.prog Try.f5 false true false false) := by
  refine returnsInHanded_of_change_sized (C := Try.checked) own started (by kernel_rfl) Try.func5
    (ChangeSpec.witness6 (enc := enc) (C := Try.checked) false ⟨#[], #[.agg #[.slice none 0 0, .slice none 0 0, .slice none 0 0, .slice none 0 0]], []⟩ 8 (by kernel_rfl) (by kernel_rfl) (by kernel_rfl) (by kernel_rfl)) ?_
  intro W base args ds gs before hval0 hW hcnd hsz0 _
  have hval : ∀ (j : Nat) t v, Try.f5.params[j]? = some t → args[j]? = some v → Value.okWide Try.prog W .any base t v := hval0
  have hW' := hW
  obtain ⟨p, q, hA0, hV, rfl, hfz, hnd⟩ := hW
  have hA : DataW.TrodAll enc Try.prog W 0 (fun _ => true) true Try.f5.params.toList args.toList ds p := hA0
  rw [Try.params5] at hA hval
  obtain ⟨v0, vs0, d0, ds0, p0, q0, hargs, rfl, rfl, h0, r0⟩ := trodAll_cons hA
  obtain ⟨rfl, rfl, rfl⟩ := trodAll_nil r0
  obtain rfl : args = #[v0] := by cases args; simp_all
  obtain ⟨rfl, rfl⟩ := trodVars_none hV
  have k0 := h0
  have lt0 : ∀ x ∈ p0, x.block < W.heap.size := by obtain ⟨m, hm⟩ := k0; exact DataW.trod_lt m _ _ _ hm
  obtain ⟨f0, hf0⟩ := h0
  obtain ⟨y0, hy0, hg0⟩ := op48 H enc f0 _ _ hf0
  obtain ⟨cs0, rfl, _⟩ := okWide_struct Try.underlying48 (hval 0 48 v0 rfl rfl)
  obtain ⟨l0, hl0⟩ : ∃ l, cs0.toList = l := ⟨_, rfl⟩
  have hy0 : (L_laws_Enc).view y0 cs0.toList (heapC W) := hy0
  rw [hl0] at hy0
  obtain ⟨_, _, rfl, ⟨_, rfl, A0_0, p0_0, rfl, w0_0⟩, ⟨_, _, rfl, ⟨_, rfl, A0_1, p0_1, rfl, w0_1⟩, ⟨_, _, rfl, ⟨_, rfl, A0_2, p0_2, rfl, w0_2⟩, ⟨_, rfl, A0_3, p0_3, rfl, w0_3⟩⟩⟩⟩ := hy0
  obtain rfl : cs0 = #[.slice A0_0 y0.Keys.length p0_0, .slice A0_1 y0.Oram.Pos.length p0_1, .slice A0_2 y0.Oram.Stash.length p0_2, .slice A0_3 y0.Oram.Buckets.length p0_3] := Array.ext' hl0
  clear hA0 hval0 hsz0
  refine (laws_FnExactMapOf_t W y0 A0_0 p0_0 (heapC W) w0_0 (heapC_has W) A0_1 p0_1 (heapC W) w0_1 (heapC_has W) A0_2 p0_2 (heapC W) w0_2 (heapC_has W) A0_3 p0_3 (heapC W) w0_3 (heapC_has W) true (pure_laws_FnExactMapOf y0 hg0)).mono fun e W' ⟨v, he, hv, hS⟩ => ?_
  subst he; subst hv
  have bel := hS.below
  exact ⟨_, rfl, _, _, _, [], _, [], hW', trodAll_mk1 (shutB Try.underlying4 _), (trodAll_cons_mk (Below.trod laidOut (by kernel_rfl) (of_decide_eq_true (by kernel_rfl)) k0 bel lt0) trodAll_mk0), rfl, bel.frame _, fun h => by cases h⟩
theorem over : Rows.fnExactMapOfRow.holds Try.pinned (OpenSpec.ofChange Rows.fnExactMapOfSpec) :=
  OpenClaim.holds_of_wide 5 Try.f5 rfl rfl rfl rfl rfl rfl rfl ⟨rfl, rfl, rfl, rfl, rfl⟩ rfl rfl rfl rfl rfl (by kernel_rfl) Try.func5 (by kernel_rfl)
    (of_decide_eq_true (by kernel_rfl)) (by unfold Func.isWrapper; first | (rw [if_pos (by decide +kernel)]; kernel_rfl) | (rw [if_neg (by decide +kernel)]; exact ⟨rfl, rfl⟩))
    (fun os started H enc _ => lifted os started H enc)
theorem fnExactMapOf_holds : Rows.FnExactMapOfSaid := over
end Go.Proofs.Ytjlhmcieholdiaa.RXMapOf
