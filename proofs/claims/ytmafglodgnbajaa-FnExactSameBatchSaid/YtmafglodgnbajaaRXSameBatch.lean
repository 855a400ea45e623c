/- FnExactSameBatch: for every input the law returns true, and its arguments read as before. No conditions but the row's own. -/
import Derived.Test.YtmafglodgnbajaaPXSameBatch
namespace Go.Proofs.Ytmafglodgnbajaa.RXSameBatch
open Go Go.Z Go.Proofs Go.MuLone Go.ChangeShapes Go.WideShapes Go.ChangeAt Go.RowKit
set_option linter.unusedVariables false
set_option linter.unusedSimpArgs false
theorem encOps_inj : ∀ (l m : List S_Op) (r s : List Int), l ≠ [] → m ≠ [] → (∀ o ∈ l, opOK o = true) → (∀ o ∈ m, opOK o = true) → (r = [] ∨ ∃ r', r = 32 :: 124 :: r') → (s = [] ∨ ∃ s', s = 32 :: 124 :: s') → encOps l r = encOps m s → l = m ∧ r = s
  | [], _, _, _, h, _, _, _, _, _, _ => absurd rfl h
  | _ :: _, [], _, _, _, h, _, _, _, _, _ => absurd rfl h
  | [o], [p], r, s, _, _, ho, hp, hr, hs, h => by
    have n32 : ¬ isDg 32 := by unfold isDg; omega
    have hr' : ND r := by rcases hr with rfl | ⟨r', rfl⟩; exact ND_nil; exact ND_cons n32
    have hs' : ND s := by rcases hs with rfl | ⟨r', rfl⟩; exact ND_nil; exact ND_cons n32
    obtain ⟨h1, h2⟩ := encOp_inj (ho o (by simp)) (hp p (by simp)) hr' hs' h
    exact ⟨by rw [h1], h2⟩
  | [o], p :: q :: m, r, s, _, _, ho, hp, hr, hs, h => by
    have n32 : ¬ isDg 32 := by unfold isDg; omega
    have n59 : ¬ isDg 59 := by unfold isDg; omega
    have hr' : ND r := by rcases hr with rfl | ⟨r', rfl⟩; exact ND_nil; exact ND_cons n32
    obtain ⟨h1, h2⟩ := encOp_inj (ho o (by simp)) (hp p (by simp)) hr' (ND_cons n59) h
    rcases hr with rfl | ⟨r', rfl⟩
    · cases h2
    · simp at h2
  | o :: p :: l, [q], r, s, _, _, ho, hp, hr, hs, h => by
    have n32 : ¬ isDg 32 := by unfold isDg; omega
    have n59 : ¬ isDg 59 := by unfold isDg; omega
    have hs' : ND s := by rcases hs with rfl | ⟨r', rfl⟩; exact ND_nil; exact ND_cons n32
    obtain ⟨h1, h2⟩ := encOp_inj (ho o (by simp)) (hp q (by simp)) (ND_cons n59) hs' h
    rcases hs with rfl | ⟨r', rfl⟩
    · cases h2
    · simp at h2
  | o :: p :: l, q :: t :: m, r, s, _, _, ho, hp, hr, hs, h => by
    have n59 : ¬ isDg 59 := by unfold isDg; omega
    obtain ⟨h1, h2⟩ := encOp_inj (ho o (by simp)) (hp q (by simp)) (ND_cons n59) (ND_cons n59) h
    simp only [List.cons.injEq, true_and] at h2
    obtain ⟨h3, h4⟩ := encOps_inj (p :: l) (t :: m) r s (by simp) (by simp) (fun o hq => ho o (by simp at hq ⊢; exact .inr hq)) (fun o hq => hp o (by simp at hq ⊢; exact .inr hq)) hr hs h2
    exact ⟨by rw [h1, h3], h4⟩
theorem encB_inj : ∀ (l m : List S_Txn), l ≠ [] → m ≠ [] → (∀ t ∈ l, t.Ops ≠ [] ∧ ∀ o ∈ t.Ops, opOK o = true) → (∀ t ∈ m, t.Ops ≠ [] ∧ ∀ o ∈ t.Ops, opOK o = true) → encB l = encB m → l = m
  | [], _, h, _, _, _, _ => absurd rfl h
  | _ :: _, [], _, h, _, _, _ => absurd rfl h
  | [t], [u], _, _, ht, hu, h => by
    obtain ⟨h1, _⟩ := encOps_inj t.Ops u.Ops [] [] (ht t (by simp)).1 (hu u (by simp)).1 (ht t (by simp)).2 (hu u (by simp)).2 (.inl rfl) (.inl rfl) h
    cases t; cases u; simp only at h1; rw [h1]
  | [t], u :: v :: m, _, _, ht, hu, h => by
    obtain ⟨_, h2⟩ := encOps_inj t.Ops u.Ops [] _ (ht t (by simp)).1 (hu u (by simp)).1 (ht t (by simp)).2 (hu u (by simp)).2 (.inl rfl) (.inr ⟨_, rfl⟩) h
    cases h2
  | t :: w :: l, [u], _, _, ht, hu, h => by
    obtain ⟨_, h2⟩ := encOps_inj t.Ops u.Ops _ [] (ht t (by simp)).1 (hu u (by simp)).1 (ht t (by simp)).2 (hu u (by simp)).2 (.inr ⟨_, rfl⟩) (.inl rfl) h
    cases h2
  | t :: w :: l, u :: v :: m, _, _, ht, hu, h => by
    obtain ⟨h1, h2⟩ := encOps_inj t.Ops u.Ops _ _ (ht t (by simp)).1 (hu u (by simp)).1 (ht t (by simp)).2 (hu u (by simp)).2 (.inr ⟨_, rfl⟩) (.inr ⟨_, rfl⟩) h
    simp only [List.cons.injEq, true_and] at h2
    have h3 := encB_inj (w :: l) (v :: m) (by simp) (by simp) (fun t hq => ht t (by simp at hq ⊢; exact .inr hq)) (fun t hq => hu t (by simp at hq ⊢; exact .inr hq)) h2
    cases t; cases u; simp only at h1; rw [h1, h3]
noncomputable instance : DecidableEq S_Op := fun _ _ => Classical.propDecidable _
noncomputable instance : DecidableEq S_Txn := fun _ _ => Classical.propDecidable _
theorem opEq_iff (x y : S_Op) : ((x.Kind == y.Kind) && ((x.Key == y.Key) && ((x.Value == y.Value) && true))) = decide (x = y) := by
  obtain ⟨a, b, c⟩ := x
  obtain ⟨d, e, f⟩ := y
  by_cases h1 : a = d
  · by_cases h2 : b = e
    · by_cases h3 : c = f
      · simp [h1, h2, h3]
      · simp [h3]
    · simp [h2]
  · simp [h1]
theorem txnEq_iff (x y : S_Txn) : decide (x.Ops = y.Ops) = decide (x = y) := by
  obtain ⟨a⟩ := x
  obtain ⟨b⟩ := y
  by_cases h : a = b
  · simp [h]
  · simp [h]
theorem sameL_iff2 {α : Type} [DecidableEq α] (z : α) (eq : α → α → Bool) (he : ∀ x y, eq x y = decide (x = y)) (a b : List α) : sameL z eq a b = decide (a = b) := by
  unfold sameL
  by_cases h : a.length = b.length
  · rw [show ((a.length : Int) == (b.length : Int)) = true from by simp [h], Bool.true_and]
    have : (fun k => eq (a.getD k z) (b.getD k z)) = (fun k => decide (a.getD k z = b.getD k z)) := by funext k; exact he _ _
    rw [this, all_eq_lists a b z h]
  · rw [show ((a.length : Int) == (b.length : Int)) = false from by simp; omega]
    rw [decide_eq_false (fun e => h (by rw [e]))]; rfl
theorem encB_isB (L : List S_Txn) : isB (encB L) := by
  have hj : ∀ (sep : List Int) (l : List (List Int)), isB sep → (∀ a ∈ l, isB a) → isB (joinL sep l) := by
    intro sep l hs
    induction l with
    | nil => intro _ b hb; simp [joinL] at hb
    | cons x r ih =>
      intro hl
      have ih' := ih (fun a ha => hl a (by simp [ha]))
      cases r with
      | nil => exact hl x (by simp)
      | cons y q =>
        intro b hb
        simp only [joinL, List.mem_append] at hb
        rcases hb with hb | hb | hb
        · exact hl x (by simp) b hb
        · exact hs b hb
        · exact ih' b hb
  rw [encB_join]
  refine hj _ _ (fun b hb => by simp at hb; omega) (fun a ha => ?_)
  obtain ⟨t, _, rfl⟩ := List.mem_map.1 ha
  rw [encOps_join]
  refine hj _ _ (fun b hb => by simp at hb; omega) (fun a ha => ?_)
  obtain ⟨o, _, rfl⟩ := List.mem_map.1 ha
  exact encOp_isB o
theorem ex_SameBatch (x0 x1 : List S_Txn) (g0 : (x0.length ≤ maxLen ∧ ∀ y : S_Txn, y ∈ x0 → ((y.Ops.length ≤ maxLen ∧ ∀ y1 : S_Op, y1 ∈ y.Ops → (((Lit.int .i64 y1.Kind).wf = true) ∧ ((Lit.int .i64 y1.Key).wf = true) ∧ ((Lit.int .i64 y1.Value).wf = true)))))) (h0 : x0.length ≤ 1048576 ∧ ∀ z0 : S_Txn, z0 ∈ x0 → ((z0.Ops.length ≤ 1048576))) (g1 : (x1.length ≤ maxLen ∧ ∀ y : S_Txn, y ∈ x1 → ((y.Ops.length ≤ maxLen ∧ ∀ y1 : S_Op, y1 ∈ y.Ops → (((Lit.int .i64 y1.Kind).wf = true) ∧ ((Lit.int .i64 y1.Key).wf = true) ∧ ((Lit.int .i64 y1.Value).wf = true)))))) (h1 : x1.length ≤ 1048576 ∧ ∀ z0 : S_Txn, z0 ∈ x1 → ((z0.Ops.length ≤ 1048576))) : ∃ r, spec_SameBatch.f x0 x1 = some r ∧ impl_SameBatch.f x0 x1 = some r ∧ True := by
  have q0 : x0.length ≤ 1073741824 ∧ ∀ y, y ∈ x0 → y.Ops.length ≤ 1073741824 := ⟨by have := h0.1; omega, fun y hy => by have := h0.2 y hy; omega⟩
  have q1 : x1.length ≤ 1073741824 ∧ ∀ y, y ∈ x1 → y.Ops.length ≤ 1073741824 := ⟨by have := h1.1; omega, fun y hy => by have := h1.2 y hy; omega⟩
  have hbig : ∀ x : List S_Txn, (x.length : Int) > 4096 → batchOK x = false := fun x hx => by
    cases hh : batchOK x with
    | false => rfl
    | true => obtain ⟨n1, n2, _⟩ := batchOK_parts hh; omega
  unfold spec_SameBatch.f impl_SameBatch.f
  simp only [impl_BatchOK_eq x0 q0, impl_BatchOK_eq x1 q1, spec_BatchOK_eq x0 q0, spec_BatchOK_eq x1 q1, Option.bind_some]
  by_cases c0 : (x0.length : Int) > 4096
  · rw [decide_eq_true c0, hbig x0 c0]; exact ⟨_, rfl, rfl, trivial⟩
  rw [decide_eq_false c0]
  by_cases c1 : (x1.length : Int) > 4096
  · rw [decide_eq_true c1, hbig x1 c1]; cases batchOK x0 <;> exact ⟨_, rfl, rfl, trivial⟩
  rw [decide_eq_false c1]
  simp only [cond_false, Option.bind_some]
  cases b0 : batchOK x0
  · exact ⟨_, rfl, rfl, trivial⟩
  cases b1 : batchOK x1
  · exact ⟨_, rfl, rfl, trivial⟩
  obtain ⟨a1, a2, a3⟩ := batchOK_parts b0
  obtain ⟨d1, d2, d3⟩ := batchOK_parts b1
  have hal : impl_alike.f x0 x1 = some (decide (x0 = x1)) := by
    unfold impl_alike.f
    rw [samef_slices_EqualFunc_impl_Txn_impl_Txn_impl_Txn_impl_Txn x0 x1 impl_alike_c1.f (fun x y => decide (x.Ops = y.Ops)) q0.1 (fun x y hx hy => by
      unfold impl_alike_c1.f
      rw [same_slices_Equal_impl_Op_impl_Op x.Ops y.Ops (q0.2 x hx), sameL_iff2 _ _ (fun a b => opEq_iff a b)]; rfl), sameL_iff2 _ _ (fun a b => txnEq_iff a b)]
    rfl
  simp only [cond_true, l09Text_eq x0 b0, l09Text_eq x1 b1, hal, Option.bind_some, ba_toList_eq]
  have hdec : decide (strOfNums (encB x0) = strOfNums (encB x1)) = decide (x0 = x1) := by
    by_cases h : x0 = x1
    · subst h; simp
    · rw [decide_eq_false h, decide_eq_false]
      intro e
      have e2 := congrArg bytesOf e
      rw [bytes_str (encB_isB x0), bytes_str (encB_isB x1)] at e2
      refine h (encB_inj x0 x1 (by rintro rfl; simp at a1) (by rintro rfl; simp at d1) (fun t ht => ?_) (fun t ht => ?_) e2)
      · obtain ⟨_, k1, _, k4⟩ := a3 t ht
        exact ⟨by intro e; rw [e] at k1; simp at k1, fun o ho => List.all_eq_true.1 k4 o ho⟩
      · obtain ⟨_, k1, _, k4⟩ := d3 t ht
        exact ⟨by intro e; rw [e] at k1; simp at k1, fun o ho => List.all_eq_true.1 k4 o ho⟩
  rw [hdec]
  exact ⟨_, rfl, rfl, trivial⟩

theorem pure_laws_FnExactSameBatch (x0 : List S_Txn) (x1 : List S_Txn) (g0 : (x0.length ≤ maxLen ∧ ∀ y : S_Txn, y ∈ x0 → ((y.Ops.length ≤ maxLen ∧ ∀ y1 : S_Op, y1 ∈ y.Ops → (((Lit.int .i64 y1.Kind).wf = true) ∧ ((Lit.int .i64 y1.Key).wf = true) ∧ ((Lit.int .i64 y1.Value).wf = true)))))) (g1 : (x1.length ≤ maxLen ∧ ∀ y : S_Txn, y ∈ x1 → ((y.Ops.length ≤ maxLen ∧ ∀ y1 : S_Op, y1 ∈ y.Ops → (((Lit.int .i64 y1.Kind).wf = true) ∧ ((Lit.int .i64 y1.Key).wf = true) ∧ ((Lit.int .i64 y1.Value).wf = true)))))) : laws_FnExactSameBatch.f x0 x1 = some true := by
  simp only [laws_FnExactSameBatch.f, Option.bind_some]
  obtain ⟨m0, e0, h0⟩ := ok_laws_szTxnS x0 1048576 (by omega) (by omega) g0
  simp only [e0, Option.bind_some]
  rcases h0 with h0 | ⟨p0, q0, h0⟩
  · rw [decide_eq_true h0]; rfl
  rw [decide_eq_false (show ¬ m0 < 0 by omega)]; simp only [cond_false]
  obtain ⟨m1, e1, h1⟩ := ok_laws_szTxnS x1 m0 (by omega) (by omega) g1
  simp only [e1, Option.bind_some]
  rcases h1 with h1 | ⟨p1, q1, h1⟩
  · rw [decide_eq_true h1]; rfl
  rw [decide_eq_false (show ¬ m1 < 0 by omega)]; simp only [cond_false]
  obtain ⟨r, hs, hi, hl⟩ := ex_SameBatch x0 x1 g0 h0 g1 h1
  obtain r0 := r
  simp only [id_laws_toTxnS x0 h0, reflL_laws_eqTxnS x0 (⟨h0.1, fun z hz => (h0.2 z hz)⟩), id_laws_toTxnS x1 h1, reflL_laws_eqTxnS x1 (⟨h1.1, fun z hz => (h1.2 z hz)⟩), hs, hi, Option.bind_some, bne_self_eq_false, bs_self, beq_self_eq_true, Bool.not_true, cond_false, cond_true]
theorem cz3 : Try.prog.cellsOf 3 = 1 := by kernel_rfl
theorem cz86 : Try.prog.cellsOf 86 = 1 := by kernel_rfl
theorem cz88 : Try.prog.cellsOf 88 = 1 := by kernel_rfl
theorem cz140 : Try.prog.cellsOf 140 = 3 := by kernel_rfl
theorem op140 {w : World} : Opens Try.prog w 140 L_Op (fun x => ((Lit.int .i64 x.Kind).wf = true) ∧ ((Lit.int .i64 x.Key).wf = true) ∧ ((Lit.int .i64 x.Value).wf = true)) :=
  (opens_struct Try.underlying140 cz140 (opensF_cons rfl cz3 (opens_int Try.underlying3) (opensF_cons rfl cz3 (opens_int Try.underlying3) (opensF_one cz3 (opens_int Try.underlying3))))).conv (fun y cs c h g => ⟨⟨y.1, y.2.1, y.2.2⟩, by obtain ⟨_, _, rfl, rfl, _, _, rfl, rfl, rfl⟩ := h; rfl, g⟩)
theorem op88 {w : World} : Opens Try.prog w 88 L_laws_Txn (fun x => ((x.Ops.length ≤ maxLen ∧ ∀ y : S_Op, y ∈ x.Ops → (((Lit.int .i64 y.Kind).wf = true) ∧ ((Lit.int .i64 y.Key).wf = true) ∧ ((Lit.int .i64 y.Value).wf = true))))) :=
  (opens_struct Try.underlying88 cz88 (opensF_one cz86 (opens_sl Try.underlying86 cz140 (by decide) op140))).conv (fun y cs c h g => ⟨⟨y⟩, h, g⟩)
theorem own : ownKnob Try.prog.godebug = none := by kernel_rfl
theorem laidOut : laidOutB Try.prog = true := by kernel_rfl
set_option maxRecDepth 100000 in
theorem lifted (os : Os) (started : os.Started) (H : Type) (enc : TypeId × Value → H) :
    ReturnsInHanded {} Try.checked os 6 .any (Rows.fnExactSameBatchSpec.pre6 enc Try.prog Try.f6 Rows.fnExactSameBatchRow.domain false) (Rows.fnExactSameBatchSpec.post enc Try.prog Try.f6 false true false false) := by
  refine returnsInHanded_of_change_sized (C := Try.checked) own started (by kernel_rfl) Try.func6
    (ChangeSpec.witness6 (enc := enc) (C := Try.checked) false ⟨#[], #[.slice none 0 0, .slice none 0 0], []⟩ 8 (by kernel_rfl) (by kernel_rfl) (by kernel_rfl) (by kernel_rfl)) ?_
  intro W base args ds gs before hval0 hW hcnd hsz0 _
  have hval : ∀ (j : Nat) t v, Try.f6.params[j]? = some t → args[j]? = some v → Value.okWide Try.prog W .any base t v := hval0
  have hW' := hW
  obtain ⟨p, q, hA0, hV, rfl, hfz, hnd⟩ := hW
  have hA : DataW.TrodAll enc Try.prog W 0 (fun _ => true) true Try.f6.params.toList args.toList ds p := hA0
  rw [Try.params6] at hA hval
  obtain ⟨v0, vs0, d0, ds0, p0, q0, hargs, rfl, rfl, h0, r0⟩ := trodAll_cons hA
  obtain ⟨v1, vs1, d1, ds1, p1, q1, rfl, rfl, rfl, h1, r1⟩ := trodAll_cons r0
  obtain ⟨rfl, rfl, rfl⟩ := trodAll_nil r1
  obtain rfl : args = #[v0, v1] := by cases args; simp_all
  obtain ⟨rfl, rfl⟩ := trodVars_none hV
  have k0 := h0
  have lt0 : ∀ x ∈ p0, x.block < W.heap.size := by obtain ⟨m, hm⟩ := k0; exact DataW.trod_lt m _ _ _ hm
  obtain ⟨f0, hf0⟩ := h0
  obtain ⟨y0, hy0, hg0⟩ := (opens_sl Try.underlying42 cz88 (by decide) op88) H enc f0 _ _ hf0
  obtain ⟨A0_, p0_, e0, w0_⟩ : ∃ A p, v0 = Value.slice A y0.length p ∧ View L_laws_Txn A p y0 (heapC W) := by
    obtain ⟨A, n, c, rfl⟩ := okWide_slice Try.underlying42 (hval 0 42 v0 rfl rfl)
    obtain ⟨v, hv, A, p, rfl, hh⟩ := hy0
    simp only [Value.cells] at hv
    exact ⟨A, p, by simpa using hv, hh⟩
  subst e0
  have k1 := h1
  have lt1 : ∀ x ∈ p1, x.block < W.heap.size := by obtain ⟨m, hm⟩ := k1; exact DataW.trod_lt m _ _ _ hm
  obtain ⟨f1, hf1⟩ := h1
  obtain ⟨y1, hy1, hg1⟩ := (opens_sl Try.underlying42 cz88 (by decide) op88) H enc f1 _ _ hf1
  obtain ⟨A1_, p1_, e1, w1_⟩ : ∃ A p, v1 = Value.slice A y1.length p ∧ View L_laws_Txn A p y1 (heapC W) := by
    obtain ⟨A, n, c, rfl⟩ := okWide_slice Try.underlying42 (hval 1 42 v1 rfl rfl)
    obtain ⟨v, hv, A, p, rfl, hh⟩ := hy1
    simp only [Value.cells] at hv
    exact ⟨A, p, by simpa using hv, hh⟩
  subst e1
  clear hA0 hval0 hsz0
  refine (laws_FnExactSameBatch_t W A0_ p0_ y0 (heapC W) w0_ (heapC_has W) A1_ p1_ y1 (heapC W) w1_ (heapC_has W) true (pure_laws_FnExactSameBatch y0 y1 hg0 hg1)).mono fun e W' ⟨v, he, hv, hS⟩ => ?_
  subst he; subst hv
  have bel := hS.below
  exact ⟨_, rfl, _, _, _, [], _, [], hW', trodAll_mk1 (shutB Try.underlying4 _), (trodAll_cons_mk (Below.trod laidOut (by kernel_rfl) (of_decide_eq_true (by kernel_rfl)) k0 bel lt0) (trodAll_cons_mk (Below.trod laidOut (by kernel_rfl) (of_decide_eq_true (by kernel_rfl)) k1 bel lt1) trodAll_mk0)), rfl, bel.frame _, fun h => by cases h⟩
theorem over : Rows.fnExactSameBatchRow.holds Try.pinned (OpenSpec.ofChange Rows.fnExactSameBatchSpec) :=
  OpenClaim.holds_of_wide 6 Try.f6 rfl rfl rfl rfl rfl rfl rfl ⟨rfl, rfl, rfl, rfl, rfl⟩ rfl rfl rfl rfl rfl (by kernel_rfl) Try.func6 (by kernel_rfl)
    (of_decide_eq_true (by kernel_rfl)) (by unfold Func.isWrapper; first | (rw [if_pos (by decide +kernel)]; kernel_rfl) | (rw [if_neg (by decide +kernel)]; exact ⟨rfl, rfl⟩))
    (fun os started H enc _ => lifted os started H enc)
theorem fnExactSameBatch_holds : Rows.FnExactSameBatchSaid := over
end Go.Proofs.Ytmafglodgnbajaa.RXSameBatch
