/- FnExactReadEntry: for every input the law returns true, and its arguments read as before. No conditions but the row's own. -/
import Derived.Test.YtmgfkpfacdlfbaaPXReadEntry
namespace Go.Proofs.Ytmgfkpfacdlfbaa.RXReadEntry
open Go Go.Z Go.Proofs Go.MuLone Go.ChangeShapes Go.WideShapes Go.ChangeAt Go.RowKit
set_option linter.unusedVariables false
set_option linter.unusedSimpArgs false
theorem opOK_rng {o : S_Op} (h : opOK o = true) : rngO o = true := by
  unfold opOK at h
  unfold rngO
  simp only [Bool.and_eq_true] at h ⊢
  obtain ⟨⟨h1, h2⟩, h3⟩ := h
  refine ⟨⟨h1, h2⟩, ?_⟩
  cases hb : (o.Kind == 1 || o.Kind == 3)
  · rw [hb] at h3
    simp only [cond_false] at h3
    cases h6 : (o.Kind == 6)
    · rw [h6] at h3; exact h3
    · rw [h6] at h3
      simp only [cond_true] at h3
      have := inB_iff.1 h3
      exact inB_iff.2 (by omega)
  · rw [hb] at h3
    simp only [cond_true, beq_iff_eq] at h3
    exact inB_iff.2 (by omega)
theorem batchOK_rng {l : List S_Txn} (h : batchOK l = true) : (inB (l.length : Int) 1 2 && l.all rngT) = true := by
  unfold batchOK at h
  simp only [Bool.and_eq_true, List.all_eq_true] at h ⊢
  refine ⟨h.1, fun t ht => ?_⟩
  have := h.2 t ht
  unfold txnOK at this
  unfold rngT
  simp only [Bool.and_eq_true, List.all_eq_true] at this ⊢
  exact ⟨this.2, fun o ho => opOK_rng (this.1 o ho)⟩
set_option maxRecDepth 100000 in
theorem ex_ReadEntry (x0 : ByteArray) (g0 : (x0.size ≤ maxLen)) (h0 : x0.size ≤ 1048576) : ∃ r, spec_ReadEntry.f x0 = some r ∧ impl_ReadEntry.f x0 = some r ∧ (r.1.length ≤ 1048576 ∧ ∀ z0 : S_Txn, z0 ∈ r.1 → ((z0.Ops.length ≤ 1048576))) ∧ (r.2.1.length ≤ 1048576) := by
  unfold spec_ReadEntry.f impl_ReadEntry.f
  simp only [areShort1, shortT, Option.bind_some]
  by_cases hs : (x0.size : Int) ≤ 65536
  case neg =>
    rw [decide_eq_true (show (x0.size : Int) > 65536 by omega), decide_eq_false hs]
    exact ⟨_, rfl, rfl, by simp⟩
  rw [decide_eq_false (show ¬ (x0.size : Int) > 65536 by omega), decide_eq_true hs]
  simp only [cond_false, Bool.not_true]
  have bound : ∀ (L : List Int) (p : Nat) (b : Bool), (∀ y ∈ (enI L (p, b)).1.2, y.Ops.length ≤ 4) ∧ (enI L (p, b)).1.2.length ≤ 2 ∧ (enI L (p, b)).1.1.length = 40 := fun L p b => by
    have := nI_cnt L 2 (by decide) (rep (nI L 0 7) 40 (p, b)).2 1 (by decide)
    refine ⟨rep_all (txI L) (fun y => y.Ops.length ≤ 4) (txI_len L) _ _, ?_, rep_len (nI L 0 7) 40 (p, b)⟩
    have h2 := rep_len (txI L) (nI L 1 2 (rep (nI L 0 7) 40 (p, b)).2).1.toNat (nI L 1 2 (rep (nI L 0 7) 40 (p, b)).2).2
    unfold enI
    simp only [h2]; omega
  have main : ∀ (L : List Int) (p : Nat) (b : Bool) (hp : p ≤ L.length) (hL : L.length ≤ 1048576), impl_readerOf.f x0 68 = some ⟨L, (p : Int), b⟩ →
      impl_readEntry.f x0 = some (bif (!(enI L (p, b)).2.2 && (L.drop (enI L (p, b)).2.1).all (fun n => n == 0)) && batchOK (enI L (p, b)).1.2 then ((enI L (p, b)).1.2, (enI L (p, b)).1.1, true) else ([], [], false)) := by
    intro L p b hp hL hR
    unfold impl_readEntry.f
    rw [hR]
    have e1 := i_several L p b 40 0 7 (by decide) hp hL (by decide)
    have h1 := ((RPair.base L 0 7 (by decide)).reps 40).le (p, b) hp
    have e1' : impl_reader_several.f ⟨L, (p : Int), b⟩ 40 0 7 = _ := e1
    simp only [Option.bind_some, e1']
    have e2 := i_next L (rep (nI L 0 7) 40 (p, b)).2.1 (rep (nI L 0 7) 40 (p, b)).2.2 1 2 h1 hL
    have h2 := (RPair.base L 1 2 (by decide)).le (rep (nI L 0 7) 40 (p, b)).2 h1
    have hcc := nI_cnt L 2 (by decide) (rep (nI L 0 7) 40 (p, b)).2 1 (by decide)
    have e3 := i_txns ⟨L, (p : Int), b⟩ L rfl ((nI L 1 2 (rep (nI L 0 7) 40 (p, b)).2).1, ((nI L 1 2 (rep (nI L 0 7) 40 (p, b)).2).2.1 : Int), (nI L 1 2 (rep (nI L 0 7) 40 (p, b)).2).2.2) _ (nI L 1 2 (rep (nI L 0 7) 40 (p, b)).2).2.2 (by simp only; omega) h2 hL
    simp only at e3
    simp only [e2, Option.bind_some, e3]
    have h3 := (en_pair L).le (p, b) hp
    have e4 := i_ends L (enI L (p, b)).2.1 (enI L (p, b)).2.2 h3 hL
    obtain ⟨b1, b2, b3⟩ := bound L p b
    have e5 := impl_BatchOK_eq (enI L (p, b)).1.2 ⟨by omega, fun y hy => by have := b1 y hy; omega⟩
    show ((Option.bind (impl_reader_ends.f ⟨L, ((enI L (p, b)).2.1 : Int), (enI L (p, b)).2.2⟩) _).bind _) = _
    rw [e4]
    simp only [Option.bind_some]
    show ((bif _ then _ else Option.bind (impl_BatchOK.f (enI L (p, b)).1.2) _).bind _) = _
    rw [e5]
    cases (!(enI L (p, b)).2.2 && (L.drop (enI L (p, b)).2.1).all (fun n => n == 0)) <;> cases batchOK (enI L (p, b)).1.2 <;> rfl
  by_cases hz : x0.size = 272
  · have hw : wordsOrS x0 68 = (wdsN (bytesOf x0) 68, 0) := by unfold wordsOrS; rw [if_pos (by omega)]
    have hlen := wdsN_len (bytesOf x0) 68
    have hR : impl_readerOf.f x0 68 = some ⟨wdsN (bytesOf x0) 68, ((0 : Nat) : Int), false⟩ := by
      unfold impl_readerOf.f
      rw [show w64 (4 * 68) = 272 from rfl, show ((x0.size : Int) != 272) = false from by simp [hz]]
      simp only [cond_false, textInts_eq x0 68 (by omega) (by omega), Option.bind_some]
      rfl
    have e := s_entry x0 h0 _ 0 hw (by omega) (by omega)
    have m := main _ 0 false (by omega) (by omega) hR
    rw [e, m]
    generalize wdsN (bytesOf x0) 68 = L at hlen
    obtain ⟨b1, b2, b3⟩ := bound L 0 false
    have hle := (en_pair L).le (0, false) (Nat.zero_le _)
    rcases (en_pair L).good 0 (Nat.zero_le _) with ⟨g1, g2, g3, g4⟩ | ⟨g1, g2⟩
    · rw [g1, g2, g3]
      rw [g2] at b1 b2 b3
      rw [g3] at hle
      have hr : restS L (enS L 0).2 = (L.drop (enS L 0).2).all (fun n => n == 0) := by
        unfold restS; rw [decide_eq_true hle, Bool.and_true]
      unfold rngE at g4
      simp only [Bool.and_eq_true] at g4
      rw [hr, g4.1]
      simp only [Option.bind_some, Bool.not_false, Bool.true_and]
      cases (L.drop (enS L 0).2).all (fun n => n == 0)
      · exact ⟨_, rfl, rfl, by simp⟩
      · cases batchOK (enS L 0).1.2
        · exact ⟨_, rfl, rfl, by simp⟩
        · exact ⟨_, rfl, rfl, ⟨⟨by simp only; omega, fun z hz => by have := b1 z hz; omega⟩, by simp only; omega⟩⟩
    · rw [g1]
      have hF : (restS L (enS L 0).2 && ((enS L 0).1.1.all (fun x => inB x 0 7) && batchOK (enS L 0).1.2)) = false := by
        cases hq : (restS L (enS L 0).2 && ((enS L 0).1.1.all (fun x => inB x 0 7) && batchOK (enS L 0).1.2)) with
        | false => rfl
        | true =>
          simp only [Bool.and_eq_true] at hq
          have h5 := batchOK_rng hq.2.2
          unfold rngE at g2
          rw [h5] at g2
          rw [show (enS L 0).1.1.all (fun y => inB y 0 7) = true from hq.2.1] at g2
          cases g2
      rw [hF]
      exact ⟨_, rfl, rfl, by simp⟩
  · have hw : wordsOrS x0 68 = ([], 1) := by unfold wordsOrS; rw [if_neg (by omega)]
    have hR : impl_readerOf.f x0 68 = some ⟨[], ((0 : Nat) : Int), true⟩ := by
      unfold impl_readerOf.f
      rw [show w64 (4 * 68) = 272 from rfl, show ((x0.size : Int) != 272) = true from by simp; omega]
      rfl
    have e := s_entry x0 h0 _ 1 hw (by simp) (by simp)
    have m := main [] 0 true (by simp) (by simp) hR
    have hbad := (en_pair []).bad 0
    rw [e, m, hbad]
    have hr : (enS [] 1).1.1.all (fun x => inB x 0 7) = false := by decide
    rw [hr]
    simp only [Bool.false_and, Bool.and_false, Bool.not_true, Option.bind_some, cond_false, Bool.not_false, cond_true]
    exact ⟨_, rfl, rfl, by simp⟩

theorem pure_laws_FnExactReadEntry (x0 : ByteArray) (g0 : (x0.size ≤ maxLen)) : laws_FnExactReadEntry.f x0 = some true := by
  simp only [laws_FnExactReadEntry.f, Option.bind_some]
  by_cases c0 : (x0.size : Int) > 1048576
  · rw [decide_eq_true c0]; rfl
  rw [decide_eq_false c0]; simp only [cond_false]
  have h0 : x0.size ≤ 1048576 := by omega
  obtain ⟨r, hs, hi, hl⟩ := ex_ReadEntry x0 g0 h0
  obtain ⟨r0, r1, r2⟩ := r
  obtain ⟨m_0, b0_0, em0, pm0, qm0, _, rm0⟩ := mk_laws_markTxnS r0 1 (by omega) (by omega) hl.1
  obtain ⟨m_1, b1_0, em1, pm1, qm1, _, rm1⟩ := mk_laws_markIntS r1 m_0 (by omega) (by omega) hl.2
  simp only [reflL_laws_eqTxnS r0 hl.1, reflL_laws_eqIntS r1 hl.2, rm0, em0, rm1, em1, hs, hi, decide_eq_false (show ¬ m_0 < 0 by omega), decide_eq_false (show ¬ m_1 < 0 by omega), Option.bind_some, bne_self_eq_false, bs_self, beq_self_eq_true, Bool.not_true, cond_false, cond_true]
theorem own : ownKnob Try.prog.godebug = none := by kernel_rfl
theorem laidOut : laidOutB Try.prog = true := by kernel_rfl
set_option maxRecDepth 100000 in
theorem lifted (os : Os) (started : os.Started) (H : Type) (enc : TypeId × Value → H) :
    ReturnsInHanded {} Try.checked os 8 .any (Rows.fnExactReadEntrySpec.pre6 enc Try.prog Try.f8 Rows.fnExactReadEntryRow.domain false) (Rows.fnExactReadEntrySpec.post enc Try.prog Try.f8 false true false false) := by
  refine returnsInHanded_of_change_sized (C := Try.checked) own started (by kernel_rfl) Try.func8
    (ChangeSpec.witness6 (enc := enc) (C := Try.checked) false ⟨#[], #[.string ⟨#[]⟩], []⟩ 8 (by kernel_rfl) (by kernel_rfl) (by kernel_rfl) (by kernel_rfl)) ?_
  intro W base args ds gs before hval0 hW hcnd hsz0 _
  have hval : ∀ (j : Nat) t v, Try.f8.params[j]? = some t → args[j]? = some v → Value.okWide Try.prog W .any base t v := hval0
  have hW' := hW
  obtain ⟨p, q, hA0, hV, rfl, hfz, hnd⟩ := hW
  have hA : DataW.TrodAll enc Try.prog W 0 (fun _ => true) true Try.f8.params.toList args.toList ds p := hA0
  rw [Try.params8] at hA hval
  obtain ⟨v0, vs0, d0, ds0, p0, q0, hargs, rfl, rfl, h0, r0⟩ := trodAll_cons hA
  obtain ⟨rfl, rfl, rfl⟩ := trodAll_nil r0
  obtain rfl : args = #[v0] := by cases args; simp_all
  obtain ⟨rfl, rfl⟩ := trodVars_none hV
  have k0 := h0
  have lt0 : ∀ x ∈ p0, x.block < W.heap.size := by obtain ⟨m, hm⟩ := k0; exact DataW.trod_lt m _ _ _ hm
  obtain ⟨f0, hf0⟩ := h0
  obtain ⟨y0, hy0, hg0⟩ := (opens_str Try.underlying9) H enc f0 _ _ hf0
  obtain rfl : v0 = .string y0 := by
    obtain hv := (hval 0 9 v0 rfl rfl)
    simp only [Value.okWide, Try.underlying9, Cell.okWide] at hv
    cases v0 <;> simp_all [Cell.ok, Value.cells, Lay.int, Lay.bool, Lay.str, Lay.flat]
  clear hA0 hval0 hsz0
  refine (laws_FnExactReadEntry_t W y0 true (pure_laws_FnExactReadEntry y0 hg0)).mono fun e W' ⟨v, he, hv, hS⟩ => ?_
  subst he; subst hv
  have bel := hS.below
  exact ⟨_, rfl, _, _, _, [], _, [], hW', trodAll_mk1 (shutB Try.underlying4 _), (trodAll_cons_mk (Below.trod laidOut (by kernel_rfl) (of_decide_eq_true (by kernel_rfl)) k0 bel lt0) trodAll_mk0), rfl, bel.frame _, fun h => by cases h⟩
theorem over : Rows.fnExactReadEntryRow.holds Try.pinned (OpenSpec.ofChange Rows.fnExactReadEntrySpec) :=
  OpenClaim.holds_of_wide 8 Try.f8 rfl rfl rfl rfl rfl rfl rfl ⟨rfl, rfl, rfl, rfl, rfl⟩ rfl rfl rfl rfl rfl (by kernel_rfl) Try.func8 (by kernel_rfl)
    (of_decide_eq_true (by kernel_rfl)) (by unfold Func.isWrapper; first | (rw [if_pos (by decide +kernel)]; kernel_rfl) | (rw [if_neg (by decide +kernel)]; exact ⟨rfl, rfl⟩))
    (fun os started H enc _ => lifted os started H enc)
theorem fnExactReadEntry_holds : Rows.FnExactReadEntrySaid := over
end Go.Proofs.Ytmgfkpfacdlfbaa.RXReadEntry
