/- FnPath: for every input the law returns true, and its arguments read as before. No conditions but the row's own. -/
import Derived.Test.YtlbbkehdfgjneaaPFPath
namespace Go.Proofs.Ytlbbkehdfgjneaa.RFPath
open Go Go.Z Go.Proofs Go.MuLone Go.ChangeShapes Go.WideShapes Go.ChangeAt Go.RowKit
set_option linter.unusedVariables false
set_option linter.unusedSimpArgs false
def emptyO (d : List Int) : S_Oram := ⟨d, [], List.replicate 15 []⟩
theorem rep_getD (i : Nat) : (List.replicate 15 ([] : List S_Block)).getD i [] = [] := by
  rw [List.getD_eq_getElem?_getD, List.getElem?_replicate]
  split <;> rfl
theorem concat_empty : slices_Concat_impl_Block_impl_Block.f (List.replicate 15 []) = some [] := by
  unfold slices_Concat_impl_Block_impl_Block.f
  have r0 := loopO_run (step := fun s : Int × Int => slices_Concat_impl_Block_impl_Block.s0 (List.replicate 15 []) s.1 s.2) (fun k => (0, (k : Int))) 15 (r := .out 0) (fun k hk => by
    simp only [slices_Concat_impl_Block_impl_Block.s0, List.length_replicate, decide_eq_true (show (k : Int) < ((15 : Nat) : Int) by omega), cond_true, if_pos (show (0 : Int) ≤ (k : Int) ∧ (k : Int) < ((15 : Nat) : Int) by omega), Int.toNat_natCast, rep_getD, List.length_nil]
    rw [show w64 (0 + ((0 : Nat) : Int)) = 0 from rfl, w64_id (by omega) (by omega)]
    rfl) rfl
  have r1 := loopO_run (step := fun s : List S_Block × Int => slices_Concat_impl_Block_impl_Block.s1 (List.replicate 15 []) s.1 s.2) (fun k => (([] : List S_Block), (k : Int))) 15 (r := .out []) (fun k hk => by
    simp only [slices_Concat_impl_Block_impl_Block.s1, List.length_replicate, decide_eq_true (show (k : Int) < ((15 : Nat) : Int) by omega), cond_true, if_pos (show (0 : Int) ≤ (k : Int) ∧ (k : Int) < ((15 : Nat) : Int) by omega), Int.toNat_natCast, rep_getD, List.length_nil]
    rw [if_pos (by omega), w64_id (by omega) (by omega)]
    rfl) rfl
  have r0' : loopO (fun s : Int × Int => slices_Concat_impl_Block_impl_Block.s0 (List.replicate 15 []) s.1 s.2) (0, 0) = _ := r0
  have r1' : loopO (fun s : List S_Block × Int => slices_Concat_impl_Block_impl_Block.s1 (List.replicate 15 []) s.1 s.2) (([] : List S_Block), 0) = _ := r1
  rw [r0']
  simp only [Option.bind_some]
  rw [if_pos (by omega), r1']; rfl
theorem all_empty (d : List Int) : impl_Oram_all.f (emptyO d) = some [] := by
  unfold impl_Oram_all.f emptyO
  rw [concat_empty]
  rfl
theorem oramOK_empty (d : List Int) (hd : d.length = 12) (hl : ∀ y ∈ d, 0 ≤ y ∧ y ≤ 7) : impl_OramOK.f (emptyO d) = some true := by
  unfold impl_OramOK.f
  have ha := all_impl_areAll_int d impl_isLeaf.f (fun x => inB x 0 7) (by omega) (fun x _ => isLeaf_eq x)
  have hall : d.all (fun x => inB x 0 7) = true := List.all_eq_true.2 (fun x hx => inB_iff.2 (hl x hx))
  rw [hall] at ha
  have r0 := loopO_run (step := fun s => impl_OramOK.s0 (emptyO d) s) (fun k => (k : Int)) 15 (r := .out ()) (fun k hk => by
    have hb : (emptyO d).Buckets = List.replicate 15 [] := rfl
    simp only [impl_OramOK.s0, hb, List.length_replicate, decide_eq_true (show (k : Int) < ((15 : Nat) : Int) by omega), cond_true, if_pos (show (0 : Int) ≤ (k : Int) ∧ (k : Int) < ((15 : Nat) : Int) by omega), Int.toNat_natCast, rep_getD, List.length_nil, all_impl_areAll_impl_Block [] (fun z0 => impl_OramOK_c1.f z0 (k : Int)) (fun _ => true) (by simp) (fun x hx => by simp at hx)]
    rw [decide_eq_false (by omega), w64_id (by omega) (by omega)]
    rfl) rfl
  have r0' : loopO (fun s => impl_OramOK.s0 (emptyO d) s) 0 = _ := r0
  have hp : (emptyO d).Pos = d := rfl
  have hb : (emptyO d).Buckets.length = 15 := by simp [emptyO]
  simp only [hp, hd, hb, ha, r0', all_empty, Option.bind_some, Bool.not_true, cond_false]
  have r1 : loopO (fun s : List Bool × Int => impl_OramOK.s1 (emptyO d) [] s.1 s.2) (List.replicate 12 (false : Bool), 0) = some (.out ()) := loopO_stop rfl
  rw [r1]; rfl
theorem onPath_eq (i x : Int) (hi : 0 ≤ i ∧ i ≤ 14) (hx : 0 ≤ x ∧ x ≤ 7) : impl_OnPath.f i x = some ((pathL x).any (fun y => i == y), 0) := by
  unfold impl_OnPath.f impl_isOnPath.f
  simp only [within_eq, inB_iff.2 hi, isLeaf_eq, inB_iff.2 hx, Bool.not_true, cond_false, Option.bind_some, pathOf_eq x hx, contains_eq (pathL x) i (by simp [pathL])]
theorem pure_laws_FnPath (x0 : List Int) (g0 : (x0.length ≤ maxLen ∧ ∀ y : Int, y ∈ x0 → ((Lit.int .u8 y).wf = true))) : laws_FnPath.f x0 = some true := by
  unfold laws_FnPath.f
  by_cases c : (x0.length : Int) > 1048576
  · rw [decide_eq_true c]; rfl
  rw [decide_eq_false c]
  have hB0 : isB x0 := fun b hb => wf_u8 (g0.2 b hb)
  obtain ⟨x, ex, x1, x2⟩ := at_some x0 0 8 (by omega) hB0 (by omega) (by omega)
  obtain ⟨k, ek, k1, k2⟩ := at_some x0 1 12 (by omega) hB0 (by omega) (by omega)
  obtain ⟨d, ed, d1, d2⟩ := drawsOf_some x0 12 (by omega) hB0 (by omega)
  have hx : 0 ≤ x ∧ x ≤ 7 := by omega
  have hd : d.length = 12 := by omega
  have u1 : 3 ≤ up1 x ∧ up1 x ≤ 6 := by unfold up1; omega
  have u2 : 1 ≤ up2 x ∧ up2 x ≤ 2 := by unfold up2; omega
  have u3 : up1 x = 2 * up2 x + 1 ∨ up1 x = 2 * up2 x + 2 := by unfold up2; omega
  have eP : impl_PathOf.f x = some (pathL x, 0) := by
    unfold impl_PathOf.f
    simp only [isLeaf_eq, inB_iff.2 hx, pathOf_eq x hx, Bool.not_true, cond_false, Option.bind_some]
  have eN : impl_NewOram.f d = some (emptyO d, 0) := by
    unfold impl_NewOram.f impl_leavesOf.f
    have ha := all_impl_areAll_int d impl_isLeaf.f (fun x => inB x 0 7) (by omega) (fun x _ => isLeaf_eq x)
    have hall : d.all (fun x => inB x 0 7) = true := List.all_eq_true.2 (fun x hx => inB_iff.2 (d2 x hx))
    rw [hall] at ha
    simp only [hd, ha, Option.bind_some]
    rw [show slices_Clone_int_int.f d = some d by unfold slices_Clone_int_int.f; rw [if_pos (by omega)]]
    rfl
  have eI : impl_idCode.f (emptyO d) k = some 0 := by
    unfold impl_idCode.f impl_isId.f
    simp only [oramOK_empty d hd d2, within_eq, inB_iff.2 (show 0 ≤ k ∧ k ≤ 11 by omega), Option.bind_some, Bool.not_true, cond_false]
  have eV : impl_ValueAt.f (emptyO d) k = some (0, 0) := by
    unfold impl_ValueAt.f impl_Oram_valueAt.f
    have r : loopO (fun s => impl_Oram_valueAt.s0 k [] s) 0 = some (.out ()) := loopO_stop rfl
    simp only [eI, all_empty, r, Option.bind_some, bne_self_eq_false, cond_false]
  have eW : impl_WhereIs.f (emptyO d) k = some (0, 5) := by
    unfold impl_WhereIs.f
    have hs : (emptyO d).Stash = [] := rfl
    have hb : (emptyO d).Buckets = List.replicate 15 [] := rfl
    have h1 := any_slices_ContainsFunc_impl_Block_impl_Block [] (fun z0 => impl_WhereIs_c1.f z0 k) (fun _ => false) (by simp) (fun x hx => by simp at hx)
    have h2 := idx_slices_IndexFunc_impl_Block_impl_Block_L (List.replicate 15 []) (fun z0 => impl_WhereIs_c2.f z0 (fun z0 => impl_WhereIs_c1.f z0 k)) (fun _ => false) (by simp) (fun y hy => by
      rw [List.eq_of_mem_replicate hy]
      unfold impl_WhereIs_c2.f
      rw [h1]; rfl)
    have h3 : idxOf (List.replicate 15 ([] : List S_Block)) [] (fun _ => false) = -1 := by
      unfold idxOf
      rw [show (List.range (List.replicate 15 ([] : List S_Block)).length).find? (fun _ => false) = none from by rw [List.find?_eq_none]; simp]
    rw [h3] at h2
    simp only [eI, hs, hb, h1, h2, Option.bind_some, bne_self_eq_false, cond_false, List.any_nil]
    rfl
  have hpl : (pathL x).length = 4 := rfl
  have q0 : (pathL x).getD (0 : Int).toNat 0 = 0 := rfl
  have q1 : (pathL x).getD (1 : Int).toNat 0 = up2 x := rfl
  have q2 : (pathL x).getD (2 : Int).toNat 0 = up1 x := rfl
  have q3 : (pathL x).getD (3 : Int).toNat 0 = 7 + x := rfl
  have w7 : w64 (7 + x) = 7 + x := w64_id (by omega) (by omega)
  have wa : w64 (2 * up2 x) = 2 * up2 x := w64_id (by omega) (by omega)
  have wb : w64 (2 * up2 x + 1) = 2 * up2 x + 1 := w64_id (by omega) (by omega)
  have wc : w64 (2 * up2 x + 2) = 2 * up2 x + 2 := w64_id (by omega) (by omega)
  have g0' : (0 : Int) ≤ 0 ∧ (0 : Int) < ((4 : Nat) : Int) := by omega
  have g1' : (0 : Int) ≤ 1 ∧ (1 : Int) < ((4 : Nat) : Int) := by omega
  have g2' : (0 : Int) ≤ 2 ∧ (2 : Int) < ((4 : Nat) : Int) := by omega
  have g3' : (0 : Int) ≤ 3 ∧ (3 : Int) < ((4 : Nat) : Int) := by omega
  have hloop := loopO_run (step := fun s => laws_FnPath.s0 x (pathL x, 0) s) (fun i => (i : Int)) 15 (r := .out ()) (fun i hi => by
    simp only [laws_FnPath.s0, decide_eq_true (show (i : Int) < 15 by omega), cond_true, onPath_eq (i : Int) x (by omega) hx, hpl, q0, q1, q2, q3, if_pos g0', if_pos g1', if_pos g2', if_pos g3', Option.bind_some]
    rw [w64_id (x := (i : Int) + 1) (by omega) (by omega)]
    have hc : ∀ a b : Int, (a == b) = (b == a) := fun a b => by rw [Bool.eq_iff_iff, beq_iff_eq, beq_iff_eq]; exact ⟨Eq.symm, Eq.symm⟩
    simp only [pathL, List.any_cons, List.any_nil, Bool.or_false, hc (i : Int)]
    cases (0 == (i : Int)) <;> cases (up2 x == (i : Int)) <;> cases (up1 x == (i : Int)) <;> cases (7 + x == (i : Int)) <;> rfl) rfl
  have hloop' : loopO (fun s => laws_FnPath.s0 x (pathL x, 0) s) 0 = _ := hloop
  simp only [cond_false, ex, eP, hpl, q0, q1, q2, q3, w7, if_pos g0', if_pos g1', if_pos g2', if_pos g3', bne_self_eq_false, hloop', ed, eN, ek, eV, eW, Option.bind_some, wa, wb, wc, BEq.rfl, cond_true, decide_eq_true (show up2 x ≥ 1 by omega), decide_eq_true (show up2 x ≤ 2 by omega)]
  rw [show ((((4 : Nat) : Int)) != 4) = false from rfl]
  simp only [cond_false, Option.bind_some]
  rcases u3 with h | h
  · rw [h]; simp only [BEq.rfl, cond_true, Option.bind_some]
  · rw [show (up1 x == 2 * up2 x + 1) = false by simp only [beq_eq_false_iff_ne]; omega, h]
    simp only [BEq.rfl, cond_true, cond_false, Option.bind_some]
theorem cz5 : Try.prog.cellsOf 5 = 1 := by kernel_rfl
theorem own : ownKnob Try.prog.godebug = none := by kernel_rfl
theorem laidOut : laidOutB Try.prog = true := by kernel_rfl
set_option maxRecDepth 100000 in
theorem lifted (os : Os) (started : os.Started) (H : Type) (enc : TypeId × Value → H) :
    ReturnsInHanded {} Try.checked os 9 .any (Rows.fnPathSpec.pre6 enc Try.prog Try.f9 Rows.fnPathRow.domain false) (Rows.fnPathSpec.post enc Try.prog Try.f9 false true false false) := by
  refine returnsInHanded_of_change_sized (C := Try.checked) own started (by kernel_rfl) Try.func9
    (ChangeSpec.witness6 (enc := enc) (C := Try.checked) false ⟨#[], #[.slice none 0 0], []⟩ 8 (by kernel_rfl) (by kernel_rfl) (by kernel_rfl) (by kernel_rfl)) ?_
  intro W base args ds gs before hval0 hW hcnd hsz0 _
  have hval : ∀ (j : Nat) t v, Try.f9.params[j]? = some t → args[j]? = some v → Value.okWide Try.prog W .any base t v := hval0
  have hW' := hW
  obtain ⟨p, q, hA0, hV, rfl, hfz, hnd⟩ := hW
  have hA : DataW.TrodAll enc Try.prog W 0 (fun _ => true) true Try.f9.params.toList args.toList ds p := hA0
  rw [Try.params9] at hA hval
  obtain ⟨v0, vs0, d0, ds0, p0, q0, hargs, rfl, rfl, h0, r0⟩ := trodAll_cons hA
  obtain ⟨rfl, rfl, rfl⟩ := trodAll_nil r0
  obtain rfl : args = #[v0] := by cases args; simp_all
  obtain ⟨rfl, rfl⟩ := trodVars_none hV
  have k0 := h0
  have lt0 : ∀ x ∈ p0, x.block < W.heap.size := by obtain ⟨m, hm⟩ := k0; exact DataW.trod_lt m _ _ _ hm
  obtain ⟨f0, hf0⟩ := h0
  obtain ⟨y0, hy0, hg0⟩ := (opens_sl Try.underlying55 cz5 (by decide) (opens_int Try.underlying5)) H enc f0 _ _ hf0
  obtain ⟨A0_, p0_, e0, w0_⟩ : ∃ A p, v0 = Value.slice A y0.length p ∧ View (Lay.int .u8) A p y0 (heapC W) := by
    obtain ⟨A, n, c, rfl⟩ := okWide_slice Try.underlying55 (hval 0 55 v0 rfl rfl)
    obtain ⟨v, hv, A, p, rfl, hh⟩ := hy0
    simp only [Value.cells] at hv
    exact ⟨A, p, by simpa using hv, hh⟩
  subst e0
  clear hA0 hval0 hsz0
  refine (laws_FnPath_t W A0_ p0_ y0 (heapC W) w0_ (heapC_has W) true (pure_laws_FnPath y0 hg0)).mono fun e W' ⟨v, he, hv, hS⟩ => ?_
  subst he; subst hv
  have bel := hS.below
  exact ⟨_, rfl, _, _, _, [], _, [], hW', trodAll_mk1 (shutB Try.underlying4 _), (trodAll_cons_mk (Below.trod laidOut (by kernel_rfl) (of_decide_eq_true (by kernel_rfl)) k0 bel lt0) trodAll_mk0), rfl, bel.frame _, fun h => by cases h⟩
theorem over : Rows.fnPathRow.holds Try.pinned (OpenSpec.ofChange Rows.fnPathSpec) :=
  OpenClaim.holds_of_wide 9 Try.f9 rfl rfl rfl rfl rfl rfl rfl ⟨rfl, rfl, rfl, rfl, rfl⟩ rfl rfl rfl rfl rfl (by kernel_rfl) Try.func9 (by kernel_rfl)
    (of_decide_eq_true (by kernel_rfl)) (by unfold Func.isWrapper; first | (rw [if_pos (by decide +kernel)]; kernel_rfl) | (rw [if_neg (by decide +kernel)]; exact ⟨rfl, rfl⟩))
    (fun os started H enc _ => lifted os started H enc)
theorem fnPath_holds : Rows.FnPathSaid := over
end Go.Proofs.Ytlbbkehdfgjneaa.RFPath
