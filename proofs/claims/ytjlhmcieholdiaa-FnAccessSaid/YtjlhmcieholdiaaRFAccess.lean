/- FnAccess: for every input the law returns true, and its arguments read as before. No conditions but the row's own. -/
import Derived.Test.YtjlhmcieholdiaaPFAccess
namespace Go.Proofs.Ytjlhmcieholdiaa.RFAccess
open Go Go.Z Go.Proofs Go.MuLone Go.ChangeShapes Go.WideShapes Go.ChangeAt Go.RowKit
set_option linter.unusedVariables false
set_option linter.unusedSimpArgs false
theorem idxOf_cases {α : Type} (l : List α) (z : α) (p : α → Bool) : (idxOf l z p = -1 ∧ ∀ x ∈ l, p x = false) ∨ ∃ k : Nat, k < l.length ∧ idxOf l z p = (k : Int) ∧ p (l.getD k z) = true := by
  unfold idxOf
  cases h : (List.range l.length).find? (fun k => p (l.getD k z)) with
  | none =>
    refine .inl ⟨rfl, fun x hx => ?_⟩
    obtain ⟨j, hj, rfl⟩ := List.mem_iff_getElem.1 hx
    rw [List.find?_eq_none] at h
    have := h j (List.mem_range.2 hj)
    rw [getD_lt hj] at this
    simpa using this
  | some k =>
    have h1 := List.find?_some h
    have h2 := List.mem_of_find?_eq_some h
    exact .inr ⟨k, List.mem_range.1 h2, rfl, h1⟩
theorem oi_all {o : S_Oram} (h : OramI o) : impl_Oram_all.f o = some (allB o) ∧ (allB o).length ≤ 1000 := by
  have h22 : ∀ k, k < o.Buckets.length → (o.Buckets.getD k []).length ≤ 2 := fun k _ => h.sm.2 k
  have hS := h.le
  have hB := h.sm.1
  have hfl : o.Buckets.flatten.length ≤ 30 := by
    have hb2 : ∀ k, k ≤ o.Buckets.length → (o.Buckets.take k).flatten.length ≤ 2 * k := by
      intro k
      induction k with
      | zero => intro _; simp
      | succ k ih =>
        intro hk
        rw [take_flat o.Buckets k (by omega), List.length_append]
        have := ih (by omega); have := h22 k (by omega); omega
    have := hb2 o.Buckets.length (Nat.le_refl _)
    rw [List.take_length] at this; omega
  unfold impl_Oram_all.f allB
  rw [concat_eq o.Buckets (by omega) h22, show slices_Clone_impl_Block_impl_Block.f o.Stash = some o.Stash by unfold slices_Clone_impl_Block_impl_Block.f; rw [if_pos (by omega)]]
  simp only [Option.bind_some]
  rw [if_pos (by omega)]
  exact ⟨rfl, by rw [List.length_append]; omega⟩
theorem oi_okI {o : S_Oram} (h : OramI o) : impl_OramOK.f o = some true := by
  have h1 := h.lv.1
  have h2 := h.le
  rw [impl_OramOK_eq o (by omega) (by omega) (fun y hy => by have := h.bl y hy; omega), (oramI_iff o).2 h]
theorem oi_okS {o : S_Oram} (h : OramI o) : spec_OramOK.f o = some true := by
  have h1 := h.lv.1
  have h2 := h.sm.1
  rw [spec_OramOK_eq o (by omega) (by omega), (oramI_iff o).2 h]
theorem oi_code {o : S_Oram} (h : OramI o) {k : Int} (hk : 0 ≤ k ∧ k ≤ 11) : impl_idCode.f o k = some 0 := by
  unfold impl_idCode.f
  simp only [oi_okI h, isId_eq, inB_iff.2 hk, Option.bind_some, Bool.not_true, cond_false]
theorem oi_value {o : S_Oram} (h : OramI o) {k : Int} (hk : 0 ≤ k ∧ k ≤ 11) : impl_ValueAt.f o k = some (valueL (allB o) k, 0) := by
  unfold impl_ValueAt.f
  simp only [oi_code h hk, Option.bind_some, bne_self_eq_false, cond_false, valueAt_all o (allB o) k (oi_all h).1 (by have := (oi_all h).2; omega)]
theorem oi_same {o : S_Oram} (h : OramI o) : impl_SameOram.f o o = some true ∧ laws_sameOram.f o o = some true := by
  have h1 := h.lv.1
  have h2 := h.le
  have h3 := h.sm.1
  have hr : ∀ {α : Type} (z : α) (eq : α → α → Bool) (he : ∀ x, eq x x = true) (a : List α), sameL z eq a a = true := fun z eq he a => by
    unfold sameL
    rw [BEq.rfl, Bool.true_and, List.all_eq_true]
    exact fun k _ => he _
  refine ⟨?_, sameOram_refl o (by omega) (by omega) (by omega) (fun q => by have := h.sm.2 q; omega)⟩
  have hq : ∀ x y : List S_Block, x ∈ o.Buckets → y ∈ o.Buckets → slices_Equal_impl_Block_impl_Block.f x y = some (sameL z_Block (fun x y => ((x.Id == y.Id) && ((x.Leaf == y.Leaf) && ((x.Value == y.Value) && true)))) x y) := fun x y hx _ => same_slices_Equal_impl_Block_impl_Block x y (by have := h.bl x hx; omega)
  have hb := hr z_Block (fun x y : S_Block => ((x.Id == y.Id) && ((x.Leaf == y.Leaf) && ((x.Value == y.Value) && true)))) (fun x => by simp)
  unfold impl_SameOram.f
  rw [same_slices_Equal_int_int _ _ (by omega), hr 0 (fun x y : Int => x == y) (fun x => by simp)]
  simp only [Option.bind_some, cond_true]
  rw [same_slices_Equal_impl_Block_impl_Block _ _ (by omega), hb]
  simp only [Option.bind_some, cond_true]
  rw [samef_slices_EqualFunc_impl_Block_impl_Block_impl_Block_impl_Block_L _ _ _ _ (by omega) hq, hr [] (fun x y => sameL z_Block (fun x y => ((x.Id == y.Id) && ((x.Leaf == y.Leaf) && ((x.Value == y.Value) && true)))) x y) hb]
  rfl
theorem onPath_eq2 (i x : Int) (hi : 0 ≤ i ∧ i ≤ 14) (hx : 0 ≤ x ∧ x ≤ 7) : impl_OnPath.f i x = some ((pathL x).contains i, 0) := by
  unfold impl_OnPath.f
  simp only [within_eq, inB_iff.2 hi, isLeaf_eq, inB_iff.2 hx, Bool.not_true, cond_false, Option.bind_some, onPath_eq i x hx]
/-- Where a block is that is there. -/
theorem oi_where_ {o : S_Oram} (h : OramI o) {k leaf : Int} (hk : 0 ≤ k ∧ k ≤ 11) (hlf : 0 ≤ leaf ∧ leaf ≤ 7) (hp : o.Pos.getD k.toNat 0 = leaf) (hm : ∃ b ∈ allB o, b.Id = k) : (impl_WhereIs.f o k = some (-1, 0) ∧ 0 < o.Stash.length) ∨ ∃ q : Int, 0 ≤ q ∧ impl_WhereIs.f o k = some (q, 0) ∧ impl_OnPath.f q leaf = some (true, 0) := by
  have hS := h.le
  have hB := h.sm.1
  have hc : ∀ l : List S_Block, l.length ≤ 1000 → slices_ContainsFunc_impl_Block_impl_Block.f l (fun z0 => impl_WhereIs_c1.f z0 k) = some (l.any (fun b => b.Id == k)) := fun l hl => any_slices_ContainsFunc_impl_Block_impl_Block l (fun z0 => impl_WhereIs_c1.f z0 k) (fun b => b.Id == k) (by omega) (fun x _ => rfl)
  unfold impl_WhereIs.f
  simp only [oi_code h hk, Option.bind_some, bne_self_eq_false, cond_false, hc o.Stash (by omega)]
  cases ha : o.Stash.any (fun b => b.Id == k)
  · right
    have hi := idx_slices_IndexFunc_impl_Block_impl_Block_L o.Buckets (fun z0 => impl_WhereIs_c2.f z0 (fun z0 => impl_WhereIs_c1.f z0 k)) (fun l => l.any (fun b => b.Id == k)) (by omega) (fun y hy => by
      unfold impl_WhereIs_c2.f
      rw [hc y (by have := h.bl y hy; omega)]; rfl)
    simp only [hi, Option.bind_some, cond_false]
    rcases idxOf_cases o.Buckets [] (fun l => l.any (fun b => b.Id == k)) with ⟨_, hn⟩ | ⟨q, hq, e, hb⟩
    · exfalso
      obtain ⟨b, hb, e⟩ := hm
      rcases List.mem_append.1 hb with hb | hb
      · have := List.any_eq_false.1 ha b hb
        exact this (by simpa using e)
      · obtain ⟨l, hl, hb⟩ := List.mem_flatten.1 hb
        have := List.any_eq_false.1 (hn l hl) b hb
        exact this (by simpa using e)
    · refine ⟨(q : Int), by omega, by rw [e, decide_eq_true (show (q : Int) ≥ 0 by omega)]; rfl, ?_⟩
      rw [onPath_eq2 _ _ (by omega) hlf]
      obtain ⟨b, hb, e2⟩ := List.any_eq_true.1 hb
      have e2 : b.Id = k := by simpa using e2
      have hon := h.on q b hb
      have hmem : b ∈ allB o := List.mem_append_right _ (List.mem_flatten.2 ⟨_, getD_mem hq [], hb⟩)
      have hok := okB_pos (h.ok b hmem)
      unfold onB at hon
      rw [Bool.and_eq_true, ← hok.2.1, e2, hp] at hon
      rw [hon.2]
  · left
    refine ⟨rfl, ?_⟩
    obtain ⟨b, hb, _⟩ := List.any_eq_true.1 ha
    exact List.length_pos_of_mem hb
theorem pure_laws_FnAccess (x0 x1 : List Int) (g0 : (x0.length ≤ maxLen ∧ ∀ y : Int, y ∈ x0 → ((Lit.int .u8 y).wf = true))) (g1 : (x1.length ≤ maxLen ∧ ∀ y : Int, y ∈ x1 → ((Lit.int .u8 y).wf = true))) : laws_FnAccess.f x0 x1 = some true := by
  unfold laws_FnAccess.f
  by_cases c : (x0.length : Int) > 1048576
  · rw [decide_eq_true c]; rfl
  by_cases c1 : (x1.length : Int) > 1048576
  · rw [decide_eq_false c, decide_eq_true c1]; rfl
  rw [decide_eq_false c, decide_eq_false c1]
  have hB0 : isB x0 := fun b hb => wf_u8 (g0.2 b hb)
  have hB1 : isB x1 := fun b hb => wf_u8 (g1.2 b hb)
  obtain ⟨o, eo, hO⟩ := oramOf_some x0 (by omega) hB0
  obtain ⟨id, e1, i0, i1⟩ := at_some x1 0 12 (by omega) hB1 (by omega) (by omega)
  obtain ⟨lf, e2, f0, f1⟩ := at_some x1 1 8 (by omega) hB1 (by omega) (by omega)
  obtain ⟨v, e3, v0, v1⟩ := at_some x1 2 900 (by omega) hB1 (by omega) (by omega)
  obtain ⟨w, e4, w0, w1⟩ := at_some x1 3 2 (by omega) hB1 (by omega) (by omega)
  have hi : 0 ≤ id ∧ id ≤ 11 := by omega
  have hlf : 0 ≤ lf ∧ lf ≤ 7 := by omega
  have hv : 0 ≤ v ∧ v ≤ 999999 := by omega
  have hP := hO.lv.1
  have eI : impl_Access.f o id (w == 1) v lf = some ((accR o id (w == 1) v lf).1, (accR o id (w == 1) v lf).2.1, (accR o id (w == 1) v lf).2.2, 0) := by
    unfold impl_Access.f
    simp only [oi_okI hO, isId_eq, isLeaf_eq, isValue_eq, inB_iff.2 hi, inB_iff.2 hlf, inB_iff.2 hv, Option.bind_some, Bool.not_true, cond_false, oramAccess_eq o id (w == 1) v lf hO hi hlf]
  have eS : spec_Access.f o id (w == 1) v lf = some ((accR o id (w == 1) v lf).1, (accR o id (w == 1) v lf).2.1, (accR o id (w == 1) v lf).2.2, 0) := by
    unfold spec_Access.f
    simp only [oi_okS hO, l01In_eq, inB_iff.2 hi, inB_iff.2 hlf, inB_iff.2 hv, Option.bind_some, Bool.not_true, cond_false, l08Access_eq o id (w == 1) v lf hO hi hlf]
  have hR := acc_inv hO (w := (w == 1)) hi hlf hv
  have hRp : (accR o id (w == 1) v lf).1.Pos = o.Pos.set id.toNat lf := rfl
  have hold : (accR o id (w == 1) v lf).2.1 = valueL (allB o) id := acc_val hO hi
  have hl2 : (accR o id (w == 1) v lf).2.2 = o.Pos.getD id.toNat 0 := rfl
  have hnew := acc_new hO (leaf := lf) (w == 1) v hi
  have hoth := acc_old hO (leaf := lf) (w == 1) v hi
  have hmem : ∃ b ∈ allB (accR o id (w == 1) v lf).1, b.Id = id := ⟨_, (acc_perm hO (leaf := lf) (w == 1) v hi).symm.subset (List.mem_cons_self ..), rfl⟩
  generalize accR o id (w == 1) v lf = R at eI eS hR hRp hold hl2 hnew hoth hmem
  have hpg : R.1.Pos.getD id.toNat 0 = lf := by rw [hRp]; exact getD_set_self _ _ _ (by omega)
  have hid1 : 0 ≤ id ∧ id < (o.Pos.length : Int) := by omega
  have hid2 : 0 ≤ id ∧ id < (R.1.Pos.length : Int) := by rw [hRp, List.length_set]; omega
  have hloop := loopO_run (step := fun s => laws_FnAccess.s0 o id v w (R.1, R.2.1, R.2.2, 0) s) (fun i => (i : Int)) 12 (r := .out ()) (fun i hi2 => by
    simp only [laws_FnAccess.s0, decide_eq_true (show (i : Int) < 12 by omega), cond_true, oi_value hO (show 0 ≤ (i : Int) ∧ (i : Int) ≤ 11 by omega), oi_value hR (show 0 ≤ (i : Int) ∧ (i : Int) ≤ 11 by omega), Option.bind_some]
    rw [w64_id (by omega) (by omega)]
    by_cases e : (i : Int) = id
    · rw [e, hnew, hold]
      simp only [BEq.rfl, cond_true, Option.bind_some, bne_self_eq_false, cond_false]
      cases w == 1 <;> simp <;> exact e.symm
    · have e' : ((i : Int) == id) = false := by rw [beq_eq_false_iff_ne]; exact e
      rw [hoth _ e, e']
      simp) rfl
  have hloop' : loopO (fun s => laws_FnAccess.s0 o id v w (R.1, R.2.1, R.2.2, 0) s) 0 = _ := hloop
  rw [hl2] at hloop'
  simp only [cond_false, Option.bind_some, eo, e1, e2, e3, e4, eI, eS, bne_self_eq_false, (oi_same hR).1, (oi_same hR).2, Bool.not_true, hl2, if_pos hid1, if_pos hid2, oi_okI hR, oi_okI hO, hpg, hloop']
  rcases oi_where_ hR hi hlf hpg hmem with ⟨eW, hs⟩ | ⟨q, hq, eW, eP⟩
  · rw [eW]
    simp only [Option.bind_some, bne_self_eq_false, cond_false]
    rw [decide_eq_false (by omega), decide_eq_true (by omega)]; rfl
  · rw [eW]
    simp only [Option.bind_some, bne_self_eq_false, cond_false]
    rw [decide_eq_true (by omega)]
    simp only [cond_true, eP, Option.bind_some, BEq.rfl]
theorem cz5 : Try.prog.cellsOf 5 = 1 := by kernel_rfl
theorem own : ownKnob Try.prog.godebug = none := by kernel_rfl
theorem laidOut : laidOutB Try.prog = true := by kernel_rfl
set_option maxRecDepth 100000 in
set_option maxHeartbeats 4000000 in
theorem lifted (os : Os) (started : os.Started) (H : Type) (enc : TypeId × Value → H) :
    ReturnsInHanded {} Try.checked os 4 .any (Rows.fnAccessSpec.pre6 enc Try.prog Try.f4 Rows.fnAccessRow.domain false) (Rows.fnAccessSpec.post enc Try.prog Try.f4 false true false false) := by
  refine returnsInHanded_of_change_sized (C := Try.checked) own started (by kernel_rfl) Try.func4
    (ChangeSpec.witness6 (enc := enc) (C := Try.checked) false ⟨#[], #[.slice none 0 0, .slice none 0 0], []⟩ 8 (by kernel_rfl) (by kernel_rfl) (by kernel_rfl) (by kernel_rfl)) ?_
  intro W base args ds gs before hval0 hW hcnd hsz0 _
  have hval : ∀ (j : Nat) t v, Try.f4.params[j]? = some t → args[j]? = some v → Value.okWide Try.prog W .any base t v := hval0
  have hW' := hW
  obtain ⟨p, q, hA0, hV, rfl, hfz, hnd⟩ := hW
  have hA : DataW.TrodAll enc Try.prog W 0 (fun _ => true) true Try.f4.params.toList args.toList ds p := hA0
  rw [Try.params4] at hA hval
  obtain ⟨v0, vs0, d0, ds0, p0, q0, hargs, rfl, rfl, h0, r0⟩ := trodAll_cons hA
  obtain ⟨v1, vs1, d1, ds1, p1, q1, rfl, rfl, rfl, h1, r1⟩ := trodAll_cons r0
  obtain ⟨rfl, rfl, rfl⟩ := trodAll_nil r1
  obtain rfl : args = #[v0, v1] := by cases args; simp_all
  obtain ⟨rfl, rfl⟩ := trodVars_none hV
  have k0 := h0
  have lt0 : ∀ x ∈ p0, x.block < W.heap.size := by obtain ⟨m, hm⟩ := k0; exact DataW.trod_lt m _ _ _ hm
  obtain ⟨f0, hf0⟩ := h0
  obtain ⟨y0, hy0, hg0⟩ := (opens_sl Try.underlying38 cz5 (by decide) (opens_int Try.underlying5)) H enc f0 _ _ hf0
  obtain ⟨A0_, p0_, e0, w0_⟩ : ∃ A p, v0 = Value.slice A y0.length p ∧ View (Lay.int .u8) A p y0 (heapC W) := by
    obtain ⟨A, n, c, rfl⟩ := okWide_slice Try.underlying38 (hval 0 38 v0 rfl rfl)
    obtain ⟨v, hv, A, p, rfl, hh⟩ := hy0
    simp only [Value.cells] at hv
    exact ⟨A, p, by simpa using hv, hh⟩
  subst e0
  have k1 := h1
  have lt1 : ∀ x ∈ p1, x.block < W.heap.size := by obtain ⟨m, hm⟩ := k1; exact DataW.trod_lt m _ _ _ hm
  obtain ⟨f1, hf1⟩ := h1
  obtain ⟨y1, hy1, hg1⟩ := (opens_sl Try.underlying38 cz5 (by decide) (opens_int Try.underlying5)) H enc f1 _ _ hf1
  obtain ⟨A1_, p1_, e1, w1_⟩ : ∃ A p, v1 = Value.slice A y1.length p ∧ View (Lay.int .u8) A p y1 (heapC W) := by
    obtain ⟨A, n, c, rfl⟩ := okWide_slice Try.underlying38 (hval 1 38 v1 rfl rfl)
    obtain ⟨v, hv, A, p, rfl, hh⟩ := hy1
    simp only [Value.cells] at hv
    exact ⟨A, p, by simpa using hv, hh⟩
  subst e1
  clear hA0 hval0 hsz0
  refine (laws_FnAccess_t W A0_ p0_ y0 (heapC W) w0_ (heapC_has W) A1_ p1_ y1 (heapC W) w1_ (heapC_has W) true (pure_laws_FnAccess y0 y1 hg0 hg1)).mono fun e W' ⟨v, he, hv, hS⟩ => ?_
  subst he; subst hv
  have bel := hS.below
  exact ⟨_, rfl, _, _, _, [], _, [], hW', trodAll_mk1 (shutB Try.underlying4 _), (trodAll_cons_mk (Below.trod laidOut (by kernel_rfl) (of_decide_eq_true (by kernel_rfl)) k0 bel lt0) (trodAll_cons_mk (Below.trod laidOut (by kernel_rfl) (of_decide_eq_true (by kernel_rfl)) k1 bel lt1) trodAll_mk0)), rfl, bel.frame _, fun h => by cases h⟩
theorem over : Rows.fnAccessRow.holds Try.pinned (OpenSpec.ofChange Rows.fnAccessSpec) :=
  OpenClaim.holds_of_wide 4 Try.f4 rfl rfl rfl rfl rfl rfl rfl ⟨rfl, rfl, rfl, rfl, rfl⟩ rfl rfl rfl rfl rfl (by kernel_rfl) Try.func4 (by kernel_rfl)
    (of_decide_eq_true (by kernel_rfl)) (by unfold Func.isWrapper; first | (rw [if_pos (by decide +kernel)]; kernel_rfl) | (rw [if_neg (by decide +kernel)]; exact ⟨rfl, rfl⟩))
    (fun os started H enc _ => lifted os started H enc)
theorem fnAccess_holds : Rows.FnAccessSaid := over
end Go.Proofs.Ytjlhmcieholdiaa.RFAccess
