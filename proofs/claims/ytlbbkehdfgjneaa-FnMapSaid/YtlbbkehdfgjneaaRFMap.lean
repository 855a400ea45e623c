/- FnMap: for every input the law returns true, and its arguments read as before. No conditions but the row's own. -/
import Derived.Test.YtlbbkehdfgjneaaPFMap
namespace Go.Proofs.Ytlbbkehdfgjneaa.RFMap
open Go Go.Z Go.Proofs Go.MuLone Go.ChangeShapes Go.WideShapes Go.ChangeAt Go.RowKit
set_option linter.unusedVariables false
set_option linter.unusedSimpArgs false
theorem doL_put (l : List S_Entry) (k v : Int) (h : ((!found l k) && ((l.length : Int) == 11)) = false) : doL l ⟨2, k, v⟩ = (putL l k v, [], 0) := by
  unfold doL
  simp only [show ((2 : Int) == 1) = false from rfl, show ((2 : Int) == 3) = false from rfl, show ((2 : Int) == 4) = false from rfl, show ((2 : Int) == 6) = false from rfl, BEq.rfl, cond_false, cond_true, h]
theorem doL_full (l : List S_Entry) (k v : Int) (h : ((!found l k) && ((l.length : Int) == 11)) = true) : doL l ⟨2, k, v⟩ = (l, [], 7) := by
  unfold doL
  simp only [show ((2 : Int) == 1) = false from rfl, show ((2 : Int) == 3) = false from rfl, show ((2 : Int) == 4) = false from rfl, show ((2 : Int) == 6) = false from rfl, cond_false, cond_true, h]
theorem doL_get (l : List S_Entry) (k v : Int) : doL l ⟨1, k, v⟩ = (l, [bif found l k then 1 else 0, foundV l k], 0) := by
  unfold doL
  simp only [BEq.rfl, cond_true]
theorem doL_drop (l : List S_Entry) (k v : Int) (h : found l k = true) : doL l ⟨3, k, v⟩ = (delL l (place l k) (place l k + 1), [1], 0) := by
  unfold doL
  simp only [show ((3 : Int) == 1) = false from rfl, BEq.rfl, cond_false, cond_true, h]
theorem pure_laws_FnMap (x0 : List Int) (x1 : List Int) (g0 : (x0.length ≤ maxLen ∧ ∀ y : Int, y ∈ x0 → ((Lit.int .u8 y).wf = true))) (g1 : (x1.length ≤ maxLen ∧ ∀ y : Int, y ∈ x1 → ((Lit.int .u8 y).wf = true))) : laws_FnMap.f x0 x1 = some true := by
  unfold laws_FnMap.f
  by_cases c : (x0.length : Int) > 1048576
  · rw [decide_eq_true c]; rfl
  by_cases c1 : (x1.length : Int) > 1048576
  · rw [decide_eq_false c, decide_eq_true c1]; rfl
  rw [decide_eq_false c, decide_eq_false c1]
  have hB0 : isB x0 := fun b hb => wf_u8 (g0.2 b hb)
  have hB1 : isB x1 := fun b hb => wf_u8 (g1.2 b hb)
  obtain ⟨m, em, hm⟩ := entriesOf_some x0 (by omega) hB0
  obtain ⟨a, ea, a0, a1⟩ := at_some x1 0 20 (by omega) hB1 (by omega) (by omega)
  obtain ⟨v, ev, v0, v1⟩ := at_some x1 1 900 (by omega) hB1 (by omega) (by omega)
  have hmsh := hm.short
  have hw : w64 (1 + a) = 1 + a := w64_id (by omega) (by omega)
  simp only [cond_false, em, ea, ev, Option.bind_some, hw]
  have hk : 1 ≤ 1 + a ∧ 1 + a ≤ 9999 := by omega
  have hv : 0 ≤ v ∧ v ≤ 999999 := by omega
  obtain ⟨k, hkk⟩ : ∃ k, k = 1 + a := ⟨_, rfl⟩
  rw [← hkk] at hk
  have wk : w64 k = k := w64_id (by omega) (by omega)
  have ok2 : ∀ V, (0 ≤ V ∧ V ≤ 999999) → opOK ⟨2, k, V⟩ = true := fun V hV => by
    unfold opOK
    simp only [Bool.and_eq_true, inB_iff, show ((2 : Int) == 1) = false from rfl, show ((2 : Int) == 3) = false from rfl, show ((2 : Int) == 6) = false from rfl, Bool.or_self, cond_false]
    exact ⟨⟨by omega, hk⟩, hV⟩
  have ok1 : opOK ⟨1, k, 0⟩ = true := by
    unfold opOK
    simp only [Bool.and_eq_true, inB_iff, BEq.rfl, Bool.true_or, cond_true]
    exact ⟨⟨by omega, hk⟩, trivial⟩
  have ok3 : opOK ⟨3, k, 0⟩ = true := by
    unfold opOK
    simp only [Bool.and_eq_true, inB_iff, BEq.rfl, Bool.or_true, cond_true]
    exact ⟨⟨by omega, hk⟩, trivial⟩
  simp only [← hkk, mapDo_eq m _ hm (ok2 v hv), Option.bind_some]
  cases hr : (!found m k) && ((m.length : Int) == 11)
  case true =>
    have h11 : ((m.length : Int) == 11) = true := by
      revert hr; cases found m k <;> simp
    simp only [doL_full m k v hr, h11, Option.bind_some, show ((7 : Int) != 0) = true from rfl, BEq.rfl, cond_true, sameEntries_refl m (by omega)]
  simp only [doL_put m k v hr, show ((0 : Int) != 0) = false from rfl, cond_false]
  have hx := sorted_put hm hk hv hr
  obtain ⟨p1, p2⟩ := put_at m k v
  obtain ⟨f1, f2, f3⟩ := found_at hx p1 (k := k) (by rw [p2])
  rw [p2] at f3
  simp only at f3
  have hz := sorted_del hx p1
  have hzn := del_not hx f2
  rw [f1] at hzn
  have hpd := fun i (hi : i < m.length) hne => put_del hm k v (i := i) hi hne
  have hdr := doL_drop (putL m k v) k 0 f2
  rw [f1] at hdr
  have hxl := hx.short
  have hzl := hz.short
  generalize hX : putL m k v = X at *
  generalize hZ : delL X (place m k) (place m k + 1) = Z at *
  have fvz : foundV Z k = 0 := by unfold foundV; rw [hzn]; rfl
  simp only [mapDo_eq X _ hx ok1, mapDo_eq X _ hx ok3, hdr, Option.bind_some, mapDo_eq Z _ hz ok1, doL_get, mapGetL_eq X k hx hk, mapGetL_eq Z k hz hk, f2, f3, hzn, fvz, cond_true, cond_false, show ((0 : Int) != 0) = false from rfl, bne_self_eq_false, sameEntries_refl X (by omega), sameInts_refl [1, v] (by simp), sameInts_refl [1] (by simp), sameInts_refl [0, 0] (by simp), impl_MapOK_eq X (by omega), impl_MapOK_eq Z (by omega), sorted_mapOK hx, sorted_mapOK hz, Bool.not_true]
  have := loopO_run (step := fun s => laws_FnMap.s0 m a (Z, [1], 0) s) (fun i => (i : Int)) m.length (r := .out ()) (fun i hi => by
    have hki := hm.key i hi
    simp only [laws_FnMap.s0, ← hkk, wk, decide_eq_true (show (i : Int) < (m.length : Int) by omega), cond_true, if_pos (show (0 : Int) ≤ (i : Int) ∧ (i : Int) < (m.length : Int) by omega), Int.toNat_natCast, mapGetL_eq Z _ hz hki, Option.bind_some]
    rw [w64_id (x := (i : Int) + 1) (by omega) (by omega)]
    by_cases hne : (m.getD i z_Entry).Key = k
    · rw [show ((m.getD i z_Entry).Key != k) = false by rw [hne]; simp]; rfl
    · obtain ⟨j, hj, ej⟩ := hpd i hi hne
      obtain ⟨g1, g2, g3⟩ := found_at hz hj (k := (m.getD i z_Entry).Key) (by rw [ej])
      rw [ej] at g3
      rw [show ((m.getD i z_Entry).Key != k) = true by simpa using hne, g2, g3]
      simp only [cond_true, show ((0 : Int) != 0) = false from rfl, cond_false, bne_self_eq_false, Option.bind_some]
      rfl) (by
    simp only [laws_FnMap.s0]
    rw [decide_eq_false (by omega)]; rfl)
  have this2 : loopO (fun s => laws_FnMap.s0 m a (Z, [1], 0) s) 0 = _ := this
  rw [this2]; rfl
theorem cz5 : Try.prog.cellsOf 5 = 1 := by kernel_rfl
theorem own : ownKnob Try.prog.godebug = none := by kernel_rfl
theorem laidOut : laidOutB Try.prog = true := by kernel_rfl
set_option maxRecDepth 100000 in
theorem lifted (os : Os) (started : os.Started) (H : Type) (enc : TypeId × Value → H) :
    ReturnsInHanded {} Try.checked os 5 .any (Rows.fnMapSpec.pre6 enc Try.prog Try.f5 Rows.fnMapRow.domain false) (Rows.fnMapSpec.post enc Try.prog Try.f5 false true false false) := by
  refine returnsInHanded_of_change_sized (C := Try.checked) own started (by kernel_rfl) Try.func5
    (ChangeSpec.witness6 (enc := enc) (C := Try.checked) false ⟨#[], #[.slice none 0 0, .slice none 0 0], []⟩ 8 (by kernel_rfl) (by kernel_rfl) (by kernel_rfl) (by kernel_rfl)) ?_
  intro W base args ds gs before hval0 hW hcnd hsz0 _
  have hval : ∀ (j : Nat) t v, Try.f5.params[j]? = some t → args[j]? = some v → Value.okWide Try.prog W .any base t v := hval0
  have hW' := hW
  obtain ⟨p, q, hA0, hV, rfl, hfz, hnd⟩ := hW
  have hA : DataW.TrodAll enc Try.prog W 0 (fun _ => true) true Try.f5.params.toList args.toList ds p := hA0
  rw [Try.params5] at hA hval
  obtain ⟨v0, vs0, d0, ds0, p0, q0, hargs, rfl, rfl, h0, r0⟩ := trodAll_cons hA
  obtain ⟨v1, vs1, d1, ds1, p1, q1, rfl, rfl, rfl, h1, r1⟩ := trodAll_cons r0
  obtain ⟨rfl, rfl, rfl⟩ := trodAll_nil r1
  obtain rfl : args = #[v0, v1] := by cases args; simp_all
  obtain ⟨rfl, rfl⟩ := trodVars_none hV
  have k0 := h0
  have lt0 : ∀ x ∈ p0, x.block < W.heap.size := by obtain ⟨m, hm⟩ := k0; exact DataW.trod_lt m _ _ _ hm
  obtain ⟨f0, hf0⟩ := h0
  obtain ⟨y0, hy0, hg0⟩ := (opens_sl Try.underlying55 cz5 (by decide) (opens_int Try.underlying5)) H enc f0 _ _ hf0
  obtain ⟨A0_, p0_, e0, w0_⟩ : ∃ A p, v0 = Value.slice A y0.length p ∧ View (Lay.int .u8) A p y0 (heapC W) := by
    obtain ⟨A, n, c, rfl⟩ := okWide_slice Try.underlying55 (hval 0 55 v0 rfl rfl)
    obtain ⟨v, hv, A, p, rfl, hh⟩ := hy0
    simp only [Value.cells] at hv
    exact ⟨A, p, by simpa using hv, hh⟩
  subst e0
  have k1 := h1
  have lt1 : ∀ x ∈ p1, x.block < W.heap.size := by obtain ⟨m, hm⟩ := k1; exact DataW.trod_lt m _ _ _ hm
  obtain ⟨f1, hf1⟩ := h1
  obtain ⟨y1, hy1, hg1⟩ := (opens_sl Try.underlying55 cz5 (by decide) (opens_int Try.underlying5)) H enc f1 _ _ hf1
  obtain ⟨A1_, p1_, e1, w1_⟩ : ∃ A p, v1 = Value.slice A y1.length p ∧ View (Lay.int .u8) A p y1 (heapC W) := by
    obtain ⟨A, n, c, rfl⟩ := okWide_slice Try.underlying55 (hval 1 55 v1 rfl rfl)
    obtain ⟨v, hv, A, p, rfl, hh⟩ := hy1
    simp only [Value.cells] at hv
    exact ⟨A, p, by simpa using hv, hh⟩
  subst e1
  clear hA0 hval0 hsz0
  refine (laws_FnMap_t W A0_ p0_ y0 (heapC W) w0_ (heapC_has W) A1_ p1_ y1 (heapC W) w1_ (heapC_has W) true (pure_laws_FnMap y0 y1 hg0 hg1)).mono fun e W' ⟨v, he, hv, hS⟩ => ?_
  subst he; subst hv
  have bel := hS.below
  exact ⟨_, rfl, _, _, _, [], _, [], hW', trodAll_mk1 (shutB Try.underlying4 _), (trodAll_cons_mk (Below.trod laidOut (by kernel_rfl) (of_decide_eq_true (by kernel_rfl)) k0 bel lt0) (trodAll_cons_mk (Below.trod laidOut (by kernel_rfl) (of_decide_eq_true (by kernel_rfl)) k1 bel lt1) trodAll_mk0)), rfl, bel.frame _, fun h => by cases h⟩
theorem over : Rows.fnMapRow.holds Try.pinned (OpenSpec.ofChange Rows.fnMapSpec) :=
  OpenClaim.holds_of_wide 5 Try.f5 rfl rfl rfl rfl rfl rfl rfl ⟨rfl, rfl, rfl, rfl, rfl⟩ rfl rfl rfl rfl rfl (by kernel_rfl) Try.func5 (by kernel_rfl)
    (of_decide_eq_true (by kernel_rfl)) (by unfold Func.isWrapper; first | (rw [if_pos (by decide +kernel)]; kernel_rfl) | (rw [if_neg (by decide +kernel)]; exact ⟨rfl, rfl⟩))
    (fun os started H enc _ => lifted os started H enc)
theorem fnMap_holds : Rows.FnMapSaid := over
end Go.Proofs.Ytlbbkehdfgjneaa.RFMap
