/- FnScan: for every input the law returns true, and its arguments read as before. No conditions but the row's own. -/
import Derived.Test.YtlbbkehdfgjneaaPFScan
namespace Go.Proofs.Ytlbbkehdfgjneaa.RFScan
open Go Go.Z Go.Proofs Go.MuLone Go.ChangeShapes Go.WideShapes Go.ChangeAt Go.RowKit
set_option linter.unusedVariables false
set_option linter.unusedSimpArgs false
theorem doL_scan (l : List S_Entry) (k v : Int) : doL l ⟨6, k, v⟩ = (l, scanL l (place l k) v.toNat, 0) := by
  unfold doL
  simp only [show ((6 : Int) == 1) = false from rfl, show ((6 : Int) == 3) = false from rfl, show ((6 : Int) == 4) = false from rfl, BEq.rfl, cond_false, cond_true]
theorem pure_laws_FnScan (x0 : List Int) (x1 : List Int) (g0 : (x0.length ≤ maxLen ∧ ∀ y : Int, y ∈ x0 → ((Lit.int .u8 y).wf = true))) (g1 : (x1.length ≤ maxLen ∧ ∀ y : Int, y ∈ x1 → ((Lit.int .u8 y).wf = true))) : laws_FnScan.f x0 x1 = some true := by
  unfold laws_FnScan.f
  by_cases c : (x0.length : Int) > 1048576
  · rw [decide_eq_true c]; rfl
  by_cases c1 : (x1.length : Int) > 1048576
  · rw [decide_eq_false c, decide_eq_true c1]; rfl
  rw [decide_eq_false c, decide_eq_false c1]
  have hB0 : isB x0 := fun b hb => wf_u8 (g0.2 b hb)
  have hB1 : isB x1 := fun b hb => wf_u8 (g1.2 b hb)
  obtain ⟨m, em, hm⟩ := entriesOf_some x0 (by omega) hB0
  obtain ⟨a, ea, a0, a1⟩ := at_some x1 0 15 (by omega) hB1 (by omega) (by omega)
  obtain ⟨v, ev, v0, v1⟩ := at_some x1 1 4 (by omega) hB1 (by omega) (by omega)
  have hmsh := hm.short
  have hw : w64 (1 + a) = 1 + a := w64_id (by omega) (by omega)
  obtain ⟨n, hn⟩ : ∃ n : Nat, 1 + v = (n : Int) := ⟨(1 + v).toNat, by omega⟩
  have hwv : w64 (1 + v) = (n : Int) := by rw [w64_id (by omega) (by omega), hn]
  have hw2 : w64 (2 * (n : Int)) = 2 * (n : Int) := w64_id (by omega) (by omega)
  have hn4 : 1 ≤ n ∧ n ≤ 4 := by omega
  obtain ⟨k, hkk⟩ : ∃ k, w64 (1 + a) = k := ⟨_, rfl⟩
  have hk : 1 ≤ k ∧ k ≤ 9999 := by omega
  have ok6 : opOK ⟨6, k, (n : Int)⟩ = true := by
    unfold opOK
    simp only [Bool.and_eq_true, inB_iff, show ((6 : Int) == 1) = false from rfl, show ((6 : Int) == 3) = false from rfl, BEq.rfl, Bool.or_self, cond_false, cond_true]
    exact ⟨⟨by omega, hk⟩, by omega⟩
  have hp := place_le m k
  simp only [cond_false, em, ea, ev, Option.bind_some, hkk, hwv, mapDo_eq m _ hm ok6, doL_scan, Int.toNat_natCast]
  obtain ⟨E, hE⟩ : ∃ E, E = min (m.length - place m k) n := ⟨_, rfl⟩
  have r1 := loopO_run (step := fun s : List Int × Int => laws_FnScan.s0 m a v s.1 s.2) (fun i => (scanL m (place m k) (min (i - place m k) n), (i : Int))) m.length (r := .out (scanL m (place m k) E)) (fun i hi => by
    have hl := scanL_len m (place m k) (min (i - place m k) n)
    simp only [laws_FnScan.s0, hkk, hwv, hw2, decide_eq_true (show (i : Int) < (m.length : Int) by omega), cond_true, if_pos (show (0 : Int) ≤ (i : Int) ∧ (i : Int) < (m.length : Int) by omega), Int.toNat_natCast, hl]
    rw [w64_id (x := (i : Int) + 1) (by omega) (by omega), show (i : Int) + 1 = ((i + 1 : Nat) : Int) by omega]
    rcases Nat.lt_or_ge i (place m k) with h | h
    · have h7 := place_lt h
      rw [decide_eq_false (show ¬ (m.getD i z_Entry).Key ≥ k by omega)]
      simp only [cond_false, Option.bind_some]
      rw [show i - place m k = 0 by omega, show i + 1 - place m k = 0 by omega]
    · have h7 := place_ge' hm h hi
      rw [decide_eq_true (show (m.getD i z_Entry).Key ≥ k by omega)]
      simp only [cond_true, Option.bind_some]
      by_cases h8 : i - place m k < n
      · rw [decide_eq_true (by omega)]
        simp only [cond_true]
        rw [if_pos (by simp only [List.length_cons, List.length_nil]; omega)]
        simp only [Option.bind_some]
        rw [show min (i + 1 - place m k) n = (i - place m k) + 1 by omega, show min (i - place m k) n = i - place m k by omega]
        simp only [scanL, cellL]
        rw [show place m k + (i - place m k) = i by omega, if_pos hi]
      · rw [decide_eq_false (by omega)]
        simp only [cond_false, Option.bind_some]
        rw [show min (i + 1 - place m k) n = n by omega, show min (i - place m k) n = n by omega]) (by
    simp only [laws_FnScan.s0]
    rw [decide_eq_false (by omega), ← hE]; rfl)
  have i0 : (([] : List Int), (0 : Int)) = (fun i : Nat => (scanL m (place m k) (min (i - place m k) n), (i : Int))) 0 := by simp [scanL]
  have hlE := scanL_len m (place m k) E
  have r2 := loopO_run (step := fun s : List Int => laws_FnScan.s1 v s) (fun j => scanL m (place m k) E ++ List.replicate j 0) (2 * (n - E)) (r := .out (scanL m (place m k) n)) (fun j hj => by
    simp only [laws_FnScan.s1, hwv, hw2, List.length_append, hlE, List.length_replicate, List.length_cons, List.length_nil]
    rw [decide_eq_true (by omega), cond_true, if_pos (by omega), List.append_assoc, show ([0] : List Int) = List.replicate 1 0 from rfl, List.replicate_append_replicate]) (by
    simp only [laws_FnScan.s1, hwv, hw2, List.length_append, hlE, List.length_replicate]
    rw [decide_eq_false (by omega), cond_false]
    congr 3
    by_cases h : E = n
    · rw [h]; simp
    · rw [← scanL_pad m _ _ (by omega), show E + (n - E) = n by omega])
  have i1 : scanL m (place m k) E = (fun j : Nat => scanL m (place m k) E ++ List.replicate j 0) 0 := by simp
  rw [i0, r1]
  simp only [Option.bind_some]
  rw [i1, r2]
  simp only [Option.bind_some, BEq.rfl, cond_true, sameEntries_refl m (by omega), sameInts_refl _ (show (scanL m (place m k) n).length ≤ 1048576 by rw [scanL_len]; omega)]
theorem cz5 : Try.prog.cellsOf 5 = 1 := by kernel_rfl
theorem own : ownKnob Try.prog.godebug = none := by kernel_rfl
theorem laidOut : laidOutB Try.prog = true := by kernel_rfl
set_option maxRecDepth 100000 in
theorem lifted (os : Os) (started : os.Started) (H : Type) (enc : TypeId × Value → H) :
    ReturnsInHanded {} Try.checked os 6 .any (Rows.fnScanSpec.pre6 enc Try.prog Try.f6 Rows.fnScanRow.domain false) (Rows.fnScanSpec.post enc Try.prog Try.f6 false true false false) := by
  refine returnsInHanded_of_change_sized (C := Try.checked) own started (by kernel_rfl) Try.func6
    (ChangeSpec.witness6 (enc := enc) (C := Try.checked) false ⟨#[], #[.slice none 0 0, .slice none 0 0], []⟩ 8 (by kernel_rfl) (by kernel_rfl) (by kernel_rfl) (by kernel_rfl)) ?_
  intro W base args ds gs before hval0 hW hcnd hsz0 _
  have hval : ∀ (j : Nat) t v, Try.f6.params[j]? = some t → args[j]? = some v → Value.okWide Try.prog W .any base t v := hval0
  have hW' := hW
  obtain ⟨p, q, hA0, hV, rfl, hfz, hnd⟩ := hW
  have hA : DataW.TrodAll enc Try.prog W 0 (fun _ => true) true Try.f6.params.toList args.toList ds p := hA0
  rw [Try.params6] at hA hval
  obtain ⟨v0, vs0, d0, ds0, p0, q0, hargs, rfl, rfl, h0, r0⟩ := trodAll_cons hA
  obtain ⟨v1, vs1, d1, ds1, p1, q1, rfl, rfl, rfl, h1, r1⟩ := trodAll_cons r0
  obtain ⟨rfl, rfl, rfl⟩ := trodAll_nil r1
  obtain rfl : args = #[v0, v1] := by cases args; simp_all
  obtain ⟨rfl, rfl⟩ := trodVars_none hV
  have k0 := h0
  have lt0 : ∀ x ∈ p0, x.block < W.heap.size := by obtain ⟨m, hm⟩ := k0; exact DataW.trod_lt m _ _ _ hm
  obtain ⟨f0, hf0⟩ := h0
  obtain ⟨y0, hy0, hg0⟩ := (opens_sl Try.underlying55 cz5 (by decide) (opens_int Try.underlying5)) H enc f0 _ _ hf0
  obtain ⟨A0_, p0_, e0, w0_⟩ : ∃ A p, v0 = Value.slice A y0.length p ∧ View (Lay.int .u8) A p y0 (heapC W) := by
    obtain ⟨A, n, c, rfl⟩ := okWide_slice Try.underlying55 (hval 0 55 v0 rfl rfl)
    obtain ⟨v, hv, A, p, rfl, hh⟩ := hy0
    simp only [Value.cells] at hv
    exact ⟨A, p, by simpa using hv, hh⟩
  subst e0
  have k1 := h1
  have lt1 : ∀ x ∈ p1, x.block < W.heap.size := by obtain ⟨m, hm⟩ := k1; exact DataW.trod_lt m _ _ _ hm
  obtain ⟨f1, hf1⟩ := h1
  obtain ⟨y1, hy1, hg1⟩ := (opens_sl Try.underlying55 cz5 (by decide) (opens_int Try.underlying5)) H enc f1 _ _ hf1
  obtain ⟨A1_, p1_, e1, w1_⟩ : ∃ A p, v1 = Value.slice A y1.length p ∧ View (Lay.int .u8) A p y1 (heapC W) := by
    obtain ⟨A, n, c, rfl⟩ := okWide_slice Try.underlying55 (hval 1 55 v1 rfl rfl)
    obtain ⟨v, hv, A, p, rfl, hh⟩ := hy1
    simp only [Value.cells] at hv
    exact ⟨A, p, by simpa using hv, hh⟩
  subst e1
  clear hA0 hval0 hsz0
  refine (laws_FnScan_t W A0_ p0_ y0 (heapC W) w0_ (heapC_has W) A1_ p1_ y1 (heapC W) w1_ (heapC_has W) true (pure_laws_FnScan y0 y1 hg0 hg1)).mono fun e W' ⟨v, he, hv, hS⟩ => ?_
  subst he; subst hv
  have bel := hS.below
  exact ⟨_, rfl, _, _, _, [], _, [], hW', trodAll_mk1 (shutB Try.underlying4 _), (trodAll_cons_mk (Below.trod laidOut (by kernel_rfl) (of_decide_eq_true (by kernel_rfl)) k0 bel lt0) (trodAll_cons_mk (Below.trod laidOut (by kernel_rfl) (of_decide_eq_true (by kernel_rfl)) k1 bel lt1) trodAll_mk0)), rfl, bel.frame _, fun h => by cases h⟩
theorem over : Rows.fnScanRow.holds Try.pinned (OpenSpec.ofChange Rows.fnScanSpec) :=
  OpenClaim.holds_of_wide 6 Try.f6 rfl rfl rfl rfl rfl rfl rfl ⟨rfl, rfl, rfl, rfl, rfl⟩ rfl rfl rfl rfl rfl (by kernel_rfl) Try.func6 (by kernel_rfl)
    (of_decide_eq_true (by kernel_rfl)) (by unfold Func.isWrapper; first | (rw [if_pos (by decide +kernel)]; kernel_rfl) | (rw [if_neg (by decide +kernel)]; exact ⟨rfl, rfl⟩))
    (fun os started H enc _ => lifted os started H enc)
theorem fnScan_holds : Rows.FnScanSaid := over
end Go.Proofs.Ytlbbkehdfgjneaa.RFScan
