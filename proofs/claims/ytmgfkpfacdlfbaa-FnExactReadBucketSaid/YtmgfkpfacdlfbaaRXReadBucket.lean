/- FnExactReadBucket: for every input the law returns true, and its arguments read as before. No conditions but the row's own. -/
import Derived.Test.YtmgfkpfacdlfbaaPXReadBucket
namespace Go.Proofs.Ytmgfkpfacdlfbaa.RXReadBucket
open Go Go.Z Go.Proofs Go.MuLone Go.ChangeShapes Go.WideShapes Go.ChangeAt Go.RowKit
set_option linter.unusedVariables false
set_option linter.unusedSimpArgs false
theorem ex_ReadBucket (x0 : ByteArray) (g0 : (x0.size ≤ maxLen)) (h0 : x0.size ≤ 1048576) : ∃ r, spec_ReadBucket.f x0 = some r ∧ impl_ReadBucket.f x0 = some r ∧ (r.1.length ≤ 1048576) := by
  unfold spec_ReadBucket.f impl_ReadBucket.f
  simp only [areShort1, shortT, Option.bind_some]
  by_cases hs : (x0.size : Int) ≤ 65536
  case neg =>
    rw [decide_eq_true (show (x0.size : Int) > 65536 by omega), decide_eq_false hs]
    exact ⟨_, rfl, rfl, by simp⟩
  rw [decide_eq_false (show ¬ (x0.size : Int) > 65536 by omega), decide_eq_true hs]
  simp only [cond_false, Bool.not_true]
  obtain ⟨L, q, hL, hw, hq, e⟩ := s_bucket x0 h0
  rw [e]
  unfold impl_readBucket.f impl_readerOf.f
  rw [show w64 (4 * 7) = 28 from rfl]
  unfold wordsOrS at hw
  by_cases hz : x0.size = 28
  · rw [show ((x0.size : Int) != 28) = false from by simp [hz]]
    rw [if_pos (by omega)] at hw
    simp only [Prod.mk.injEq] at hw
    obtain ⟨rfl, rfl⟩ := hw
    simp only [cond_false, textInts_eq x0 7 (by omega) (by omega), Option.bind_some]
    have hlen := wdsN_len (bytesOf x0) 7
    generalize wdsN (bytesOf x0) 7 = L at hlen hL ⊢
    have eb := i_blocks L 0 false 2 (Nat.zero_le _) hL (by decide)
    rw [show ((0 : Nat) : Int) = 0 from rfl] at eb
    rw [eb]
    simp only [Option.bind_some]
    have hb0 := RPair.base L 0 2 (by decide)
    have hle := hb0.le (0, false) (Nat.zero_le _)
    have hpr := (blk_pair L).reps (nI L 0 2 (0, false)).1.toNat
    have hle2 := hpr.le (nI L 0 2 (0, false)).2 hle
    rw [i_ends L _ _ hle2 hL]
    simp only [Option.bind_some]
    rcases hb0.good 0 (Nat.zero_le _) with ⟨g1, g2, g3, g4⟩ | ⟨g1, g2⟩
    · have hc : cS L 2 0 = nS L 0 := by unfold cS; rw [if_pos g4]
      rw [hc]
      generalize nI L 0 2 (0, false) = r at g1 g2 g3 hle hpr hle2 ⊢
      obtain ⟨n, a, bb⟩ := r
      simp only at g1 g2 g3 hle hle2
      subst g1
      rw [← g2, ← g3]
      rw [← g2] at g4
      have hn := inB_iff.1 g4
      rcases hpr.good a hle with ⟨k1, k2, k3, k4⟩ | ⟨k1, k2⟩
      · have hl := rep_len (blkS L) n.toNat a
        simp only [k1, k2, k3] at hle2 ⊢
        rw [k4, decide_eq_true (show ((rep (blkS L) n.toNat a).1.length : Int) ≤ 2 by rw [hl]; omega)]
        have hr : restS L (rep (blkS L) n.toNat a).2 = (L.drop (rep (blkS L) n.toNat a).2).all (fun n => n == 0) := by
          unfold restS
          rw [decide_eq_true hle2, Bool.and_true]
        rw [hr]
        simp only [Bool.and_true, Bool.not_false, Bool.true_and]
        cases (L.drop (rep (blkS L) n.toNat a).2).all (fun n => n == 0)
        · exact ⟨_, rfl, rfl, by simp⟩
        · exact ⟨_, rfl, rfl, by simp only [hl]; omega⟩
      · rw [k1, k2]
        simp only [Bool.false_and, Bool.and_false, Bool.not_true]
        exact ⟨_, rfl, rfl, by simp⟩
    · have hc : cS L 2 0 = (0, L.length + 1) := by unfold cS; rw [if_neg (by rw [g2]; decide)]
      rw [hc]
      have hbad : (rep (blkI L) (nI L 0 2 (0, false)).1.toNat (nI L 0 2 (0, false)).2).2.2 = true := by
        generalize nI L 0 2 (0, false) = r at g1 hpr ⊢
        obtain ⟨n, a, bb⟩ := r
        simp only at g1
        subst g1
        exact hpr.bad a
      have hr : restS L (rep (blkS L) (Int.toNat 0) (L.length + 1)).2 = false := by
        show restS L (L.length + 1) = false
        unfold restS
        rw [decide_eq_false (by omega)]; simp
      rw [hbad]
      simp only [hr, Bool.false_and, Bool.not_true, Bool.not_false, cond_true]
      exact ⟨_, rfl, rfl, by simp⟩
  · rw [show ((x0.size : Int) != 28) = true from by simp; omega]
    rw [if_neg (by omega)] at hw
    simp only [Prod.mk.injEq] at hw
    obtain ⟨rfl, rfl⟩ := hw
    simp only [cond_true, Option.bind_some]
    have eb := i_blocks [] 0 true 2 (Nat.zero_le _) (by decide) (by decide)
    rw [show ((0 : Nat) : Int) = 0 from rfl] at eb
    rw [eb]
    simp only [Option.bind_some]
    have e2 := i_ends [] 0 true (Nat.zero_le _) (by decide)
    have hn : nI [] 0 2 (0, true) = (0, (0, true)) := rfl
    rw [hn]
    show ∃ r, _ ∧ ((impl_reader_ends.f ⟨[], ((0 : Nat) : Int), true⟩).bind _).bind _ = some r ∧ _
    rw [e2]
    exact ⟨_, rfl, rfl, by simp⟩

theorem pure_laws_FnExactReadBucket (x0 : ByteArray) (g0 : (x0.size ≤ maxLen)) : laws_FnExactReadBucket.f x0 = some true := by
  simp only [laws_FnExactReadBucket.f, Option.bind_some]
  by_cases c0 : (x0.size : Int) > 1048576
  · rw [decide_eq_true c0]; rfl
  rw [decide_eq_false c0]; simp only [cond_false]
  have h0 : x0.size ≤ 1048576 := by omega
  obtain ⟨r, hs, hi, hl⟩ := ex_ReadBucket x0 g0 h0
  obtain ⟨r0, r1⟩ := r
  obtain ⟨m_0, b0_0, em0, pm0, qm0, _, rm0⟩ := mk_laws_markBlockS r0 1 (by omega) (by omega) hl
  simp only [reflL_laws_eqBlockS r0 hl, rm0, em0, hs, hi, decide_eq_false (show ¬ m_0 < 0 by omega), Option.bind_some, bne_self_eq_false, bs_self, beq_self_eq_true, Bool.not_true, cond_false, cond_true]
theorem own : ownKnob Try.prog.godebug = none := by kernel_rfl
theorem laidOut : laidOutB Try.prog = true := by kernel_rfl
set_option maxRecDepth 100000 in
theorem lifted (os : Os) (started : os.Started) (H : Type) (enc : TypeId × Value → H) :
    ReturnsInHanded {} Try.checked os 7 .any (Rows.fnExactReadBucketSpec.pre6 enc Try.prog Try.f7 Rows.fnExactReadBucketRow.domain false) (Rows.fnExactReadBucketSpec.post enc Try.prog Try.f7 false true false false) := by
  refine returnsInHanded_of_change_sized (C := Try.checked) own started (by kernel_rfl) Try.func7
    (ChangeSpec.witness6 (enc := enc) (C := Try.checked) false ⟨#[], #[.string ⟨#[]⟩], []⟩ 8 (by kernel_rfl) (by kernel_rfl) (by kernel_rfl) (by kernel_rfl)) ?_
  intro W base args ds gs before hval0 hW hcnd hsz0 _
  have hval : ∀ (j : Nat) t v, Try.f7.params[j]? = some t → args[j]? = some v → Value.okWide Try.prog W .any base t v := hval0
  have hW' := hW
  obtain ⟨p, q, hA0, hV, rfl, hfz, hnd⟩ := hW
  have hA : DataW.TrodAll enc Try.prog W 0 (fun _ => true) true Try.f7.params.toList args.toList ds p := hA0
  rw [Try.params7] at hA hval
  obtain ⟨v0, vs0, d0, ds0, p0, q0, hargs, rfl, rfl, h0, r0⟩ := trodAll_cons hA
  obtain ⟨rfl, rfl, rfl⟩ := trodAll_nil r0
  obtain rfl : args = #[v0] := by cases args; simp_all
  obtain ⟨rfl, rfl⟩ := trodVars_none hV
  have k0 := h0
  have lt0 : ∀ x ∈ p0, x.block < W.heap.size := by obtain ⟨m, hm⟩ := k0; exact DataW.trod_lt m _ _ _ hm
  obtain ⟨f0, hf0⟩ := h0
  obtain ⟨y0, hy0, hg0⟩ := (opens_str Try.underlying9) H enc f0 _ _ hf0
  obtain rfl : v0 = .string y0 := by
    obtain hv := (hval 0 9 v0 rfl rfl)
    simp only [Value.okWide, Try.underlying9, Cell.okWide] at hv
    cases v0 <;> simp_all [Cell.ok, Value.cells, Lay.int, Lay.bool, Lay.str, Lay.flat]
  clear hA0 hval0 hsz0
  refine (laws_FnExactReadBucket_t W y0 true (pure_laws_FnExactReadBucket y0 hg0)).mono fun e W' ⟨v, he, hv, hS⟩ => ?_
  subst he; subst hv
  have bel := hS.below
  exact ⟨_, rfl, _, _, _, [], _, [], hW', trodAll_mk1 (shutB Try.underlying4 _), (trodAll_cons_mk (Below.trod laidOut (by kernel_rfl) (of_decide_eq_true (by kernel_rfl)) k0 bel lt0) trodAll_mk0), rfl, bel.frame _, fun h => by cases h⟩
theorem over : Rows.fnExactReadBucketRow.holds Try.pinned (OpenSpec.ofChange Rows.fnExactReadBucketSpec) :=
  OpenClaim.holds_of_wide 7 Try.f7 rfl rfl rfl rfl rfl rfl rfl ⟨rfl, rfl, rfl, rfl, rfl⟩ rfl rfl rfl rfl rfl (by kernel_rfl) Try.func7 (by kernel_rfl)
    (of_decide_eq_true (by kernel_rfl)) (by unfold Func.isWrapper; first | (rw [if_pos (by decide +kernel)]; kernel_rfl) | (rw [if_neg (by decide +kernel)]; exact ⟨rfl, rfl⟩))
    (fun os started H enc _ => lifted os started H enc)
theorem fnExactReadBucket_holds : Rows.FnExactReadBucketSaid := over
end Go.Proofs.Ytmgfkpfacdlfbaa.RXReadBucket
