/- FnExactReadState: for every input the law returns true, and its arguments read as before. No conditions but the row's own. -/
import Derived.Test.YtmgfkpfacdlfbaaPXReadState
namespace Go.Proofs.Ytmgfkpfacdlfbaa.RXReadState
open Go Go.Z Go.Proofs Go.MuLone Go.ChangeShapes Go.WideShapes Go.ChangeAt Go.RowKit
set_option linter.unusedVariables false
set_option linter.unusedSimpArgs false
theorem ex_ReadState (x0 : ByteArray) (g0 : (x0.size ≤ maxLen)) (h0 : x0.size ≤ 1048576) : ∃ r, spec_ReadState.f x0 = some r ∧ impl_ReadState.f x0 = some r ∧ ((r.1.Keys.length ≤ 1048576) ∧ ((r.1.Oram.Pos.length ≤ 1048576) ∧ (r.1.Oram.Stash.length ≤ 1048576) ∧ (r.1.Oram.Buckets.length ≤ 1048576 ∧ ∀ z0 : List S_Block, z0 ∈ r.1.Oram.Buckets → (z0.length ≤ 1048576)))) ∧ (r.2.1.length ≤ 1048576 ∧ ∀ z0 : S_Result, z0 ∈ r.2.1 → ((z0.Values.length ≤ 1048576))) := by
  unfold spec_ReadState.f impl_ReadState.f
  simp only [areShort1, shortT, Option.bind_some]
  by_cases hs : (x0.size : Int) ≤ 65536
  case neg =>
    rw [decide_eq_true (show (x0.size : Int) > 65536 by omega), decide_eq_false hs]
    exact ⟨_, rfl, rfl, by simp⟩
  rw [decide_eq_false (show ¬ (x0.size : Int) > 65536 by omega), decide_eq_true hs]
  simp only [cond_false, Bool.not_true]
  by_cases hz : x0.size = 560
  · have hw : wordsOrS x0 140 = (wdsN (bytesOf x0) 140, 0) := by unfold wordsOrS; rw [if_pos (by omega)]
    have hlen := wdsN_len (bytesOf x0) 140
    have hR : impl_readerOf.f x0 140 = some ⟨wdsN (bytesOf x0) 140, ((0 : Nat) : Int), false⟩ := by
      unfold impl_readerOf.f
      rw [show w64 (4 * 140) = 560 from rfl, show ((x0.size : Int) != 560) = false from by simp [hz]]
      simp only [cond_false, textInts_eq x0 140 (by omega) (by omega), Option.bind_some]
      rfl
    have e := s_state x0 h0 _ 0 hw (by omega) (by omega)
    have m := i_state x0 _ 0 false (by omega) (by omega) hR
    rw [e, m]
    generalize wdsN (bytesOf x0) 140 = L at hlen
    obtain ⟨l1, l2, l3, l4, l5⟩ := stS_len L 0
    have hle := (st_pair L).le (0, false) (Nat.zero_le _)
    rcases (st_pair L).good 0 (Nat.zero_le _) with ⟨g1, g2, g3, g4⟩ | ⟨g1, g2⟩
    · rw [g1, g2, g3]
      rw [g3] at hle
      have hr : restS L (stS L 0).2 = (L.drop (stS L 0).2).all (fun n => n == 0) := by
        unfold restS; rw [decide_eq_true hle, Bool.and_true]
      rw [hr]
      simp only [Option.bind_some, Bool.not_false, Bool.true_and]
      cases hv : (L.drop (stS L 0).2).all (fun n => n == 0) && okV (stS L 0).1
      · exact ⟨_, rfl, rfl, by simp⟩
      · simp only [Bool.not_true, cond_false, cond_true]
        rw [l11Own_eq ⟨(stS L 0).1.keys, encV (stS L 0).1⟩ (by simp only; omega) (by simp only [encV]; omega) (by simp only [encV]; omega) (by simp [encV]) (fun y hy => by have := List.eq_of_mem_replicate hy; subst this; simp)]
        refine ⟨_, rfl, rfl, ?_⟩
        simp only [encV]
        exact ⟨⟨by omega, by omega, by omega, by simp, fun z hz => by have := List.eq_of_mem_replicate hz; subst this; simp⟩, by omega, fun z hz => by have := l5 z hz; omega⟩
    · rw [g1]
      have hF : (restS L (stS L 0).2 && okV (stS L 0).1) = false := by
        cases hq : (restS L (stS L 0).2 && okV (stS L 0).1) with
        | false => rfl
        | true =>
          simp only [Bool.and_eq_true] at hq
          rcases g2 with g2 | g2
          · rw [okV_rng hq.2] at g2; cases g2
          · have := hq.1
            unfold restS at this
            rw [g2] at this
            simp at this
            exact absurd this.2 (by omega)
      rw [hF]
      exact ⟨_, rfl, rfl, by simp⟩
  · have hw : wordsOrS x0 140 = ([], 1) := by unfold wordsOrS; rw [if_neg (by omega)]
    have hR : impl_readerOf.f x0 140 = some ⟨[], ((0 : Nat) : Int), true⟩ := by
      unfold impl_readerOf.f
      rw [show w64 (4 * 140) = 560 from rfl, show ((x0.size : Int) != 560) = true from by simp; omega]
      rfl
    have e := s_state x0 h0 _ 1 hw (by simp) (by simp)
    have m := i_state x0 [] 0 true (by simp) (by simp) hR
    have hbad := (st_pair []).bad 0
    have hstk := (st_pair []).stuck
    rw [e, m, hbad]
    have hr : restS [] (stS [] 1).2 = false := by
      unfold restS
      rw [show (stS [] 1).2 = 1 from hstk]
      rfl
    rw [hr]
    simp only [Bool.false_and, Bool.and_false, Bool.not_true, Option.bind_some, cond_false, Bool.not_false, cond_true]
    exact ⟨_, rfl, rfl, by simp⟩

theorem pure_laws_FnExactReadState (x0 : ByteArray) (g0 : (x0.size ≤ maxLen)) : laws_FnExactReadState.f x0 = some true := by
  simp only [laws_FnExactReadState.f, Option.bind_some]
  by_cases c0 : (x0.size : Int) > 1048576
  · rw [decide_eq_true c0]; rfl
  rw [decide_eq_false c0]; simp only [cond_false]
  have h0 : x0.size ≤ 1048576 := by omega
  obtain ⟨r, hs, hi, hl⟩ := ex_ReadState x0 g0 h0
  obtain ⟨⟨r0_Keys, ⟨r0_Oram_Pos, r0_Oram_Stash, r0_Oram_Buckets⟩⟩, r1, r2⟩ := r
  obtain ⟨m_0, b0_0, b0_1, b0_2, b0_3, em0, pm0, qm0, rm0⟩ := mk_laws_markEnc (⟨r0_Keys, (⟨r0_Oram_Pos, r0_Oram_Stash, r0_Oram_Buckets⟩ : S_Oram)⟩ : S_Enc) 1 (by omega) (by omega) hl.1
  have hh0 := rm0 (⟨b0_0, (⟨b0_1, b0_2, b0_3⟩ : S_Oram)⟩ : S_Enc) rfl rfl rfl rfl
  obtain ⟨m_1, b1_0, em1, pm1, qm1, _, rm1⟩ := mk_laws_markResultS r1 m_0 (by omega) (by omega) hl.2
  simp only [reflL_laws_eqEnc (⟨r0_Keys, (⟨r0_Oram_Pos, r0_Oram_Stash, r0_Oram_Buckets⟩ : S_Oram)⟩ : S_Enc) hl.1, reflL_laws_eqResultS r1 hl.2, hh0, em0, rm1, em1, hs, hi, decide_eq_false (show ¬ m_0 < 0 by omega), decide_eq_false (show ¬ m_1 < 0 by omega), Option.bind_some, bne_self_eq_false, bs_self, beq_self_eq_true, Bool.not_true, cond_false, cond_true]
theorem own : ownKnob Try.prog.godebug = none := by kernel_rfl
theorem laidOut : laidOutB Try.prog = true := by kernel_rfl
set_option maxRecDepth 100000 in
theorem lifted (os : Os) (started : os.Started) (H : Type) (enc : TypeId × Value → H) :
    ReturnsInHanded {} Try.checked os 9 .any (Rows.fnExactReadStateSpec.pre6 enc Try.prog Try.f9 Rows.fnExactReadStateRow.domain false) (Rows.fnExactReadStateSpec.post enc Try.prog Try.f9 false true false false) := by
  refine returnsInHanded_of_change_sized (C := Try.checked) own started (by kernel_rfl) Try.func9
    (ChangeSpec.witness6 (enc := enc) (C := Try.checked) false ⟨#[], #[.string ⟨#[]⟩], []⟩ 8 (by kernel_rfl) (by kernel_rfl) (by kernel_rfl) (by kernel_rfl)) ?_
  intro W base args ds gs before hval0 hW hcnd hsz0 _
  have hval : ∀ (j : Nat) t v, Try.f9.params[j]? = some t → args[j]? = some v → Value.okWide Try.prog W .any base t v := hval0
  have hW' := hW
  obtain ⟨p, q, hA0, hV, rfl, hfz, hnd⟩ := hW
  have hA : DataW.TrodAll enc Try.prog W 0 (fun _ => true) true Try.f9.params.toList args.toList ds p := hA0
  rw [Try.params9] at hA hval
  obtain ⟨v0, vs0, d0, ds0, p0, q0, hargs, rfl, rfl, h0, r0⟩ := trodAll_cons hA
  obtain ⟨rfl, rfl, rfl⟩ := trodAll_nil r0
  obtain rfl : args = #[v0] := by cases args; simp_all
  obtain ⟨rfl, rfl⟩ := trodVars_none hV
  have k0 := h0
  have lt0 : ∀ x ∈ p0, x.block < W.heap.size := by obtain ⟨m, hm⟩ := k0; exact DataW.trod_lt m _ _ _ hm
  obtain ⟨f0, hf0⟩ := h0
  obtain ⟨y0, hy0, hg0⟩ := (opens_str Try.underlying9) H enc f0 _ _ hf0
  obtain rfl : v0 = .string y0 := by
    obtain hv := (hval 0 9 v0 rfl rfl)
    simp only [Value.okWide, Try.underlying9, Cell.okWide] at hv
    cases v0 <;> simp_all [Cell.ok, Value.cells, Lay.int, Lay.bool, Lay.str, Lay.flat]
  clear hA0 hval0 hsz0
  refine (laws_FnExactReadState_t W y0 true (pure_laws_FnExactReadState y0 hg0)).mono fun e W' ⟨v, he, hv, hS⟩ => ?_
  subst he; subst hv
  have bel := hS.below
  exact ⟨_, rfl, _, _, _, [], _, [], hW', trodAll_mk1 (shutB Try.underlying4 _), (trodAll_cons_mk (Below.trod laidOut (by kernel_rfl) (of_decide_eq_true (by kernel_rfl)) k0 bel lt0) trodAll_mk0), rfl, bel.frame _, fun h => by cases h⟩
theorem over : Rows.fnExactReadStateRow.holds Try.pinned (OpenSpec.ofChange Rows.fnExactReadStateSpec) :=
  OpenClaim.holds_of_wide 9 Try.f9 rfl rfl rfl rfl rfl rfl rfl ⟨rfl, rfl, rfl, rfl, rfl⟩ rfl rfl rfl rfl rfl (by kernel_rfl) Try.func9 (by kernel_rfl)
    (of_decide_eq_true (by kernel_rfl)) (by unfold Func.isWrapper; first | (rw [if_pos (by decide +kernel)]; kernel_rfl) | (rw [if_neg (by decide +kernel)]; exact ⟨rfl, rfl⟩))
    (fun os started H enc _ => lifted os started H enc)
theorem fnExactReadState_holds : Rows.FnExactReadStateSaid := over
end Go.Proofs.Ytmgfkpfacdlfbaa.RXReadState
