/- FnExactReadOp: for every input the law returns true, and its arguments read as before. No conditions but the row's own. -/
import Derived.Test.YtfjhdkmdidadiaaDoorPXReadOp
import Derived.Test.YtfjhdkmdidadiaaDoorCards
import Derived.Test.YtfjhdkmdidadiaaDoorTie
import Derived.OpenShut
import Derived.Deep.DeepHandedRow
namespace Go.Proofs.YtfjhdkmdidadiaaDoor.RXReadOp
open Go Go.Z Go.Proofs Go.MuLone Go.ChangeShapes Go.WideShapes Go.ChangeAt Go.RowKit
set_option linter.unusedVariables false
set_option linter.unusedSimpArgs false
def opW : List ByteArray := [(⟨#[]⟩ : ByteArray), (⟨#[103, 101, 116]⟩ : ByteArray), (⟨#[112, 117, 116]⟩ : ByteArray), (⟨#[100, 114, 111, 112]⟩ : ByteArray), (⟨#[99, 104, 101, 99, 107]⟩ : ByteArray), (⟨#[97, 100, 100]⟩ : ByteArray), (⟨#[115, 99, 97, 110]⟩ : ByteArray)]
def accK (w : ByteArray) : Nat → Int
  | 0 => 0
  | j + 1 => bif (opW.getD (j + 1) ByteArray.empty).toList == w.toList then ((j + 1 : Nat) : Int) else accK w j
theorem kind_cases (w : ByteArray) (hw : w ≠ (⟨#[]⟩ : ByteArray)) : (1 ≤ accK w 6 ∧ accK w 6 ≤ 6 ∧ idxOf opW ByteArray.empty (fun y => w.toList == y.toList) = accK w 6) ∨ (accK w 6 = 0 ∧ idxOf opW ByteArray.empty (fun y => w.toList == y.toList) = -1) := by
  by_cases h1 : w = (⟨#[103, 101, 116]⟩ : ByteArray)
  · subst h1; left; decide +kernel
  by_cases h2 : w = (⟨#[112, 117, 116]⟩ : ByteArray)
  · subst h2; left; decide +kernel
  by_cases h3 : w = (⟨#[100, 114, 111, 112]⟩ : ByteArray)
  · subst h3; left; decide +kernel
  by_cases h4 : w = (⟨#[99, 104, 101, 99, 107]⟩ : ByteArray)
  · subst h4; left; decide +kernel
  by_cases h5 : w = (⟨#[97, 100, 100]⟩ : ByteArray)
  · subst h5; left; decide +kernel
  by_cases h6 : w = (⟨#[115, 99, 97, 110]⟩ : ByteArray)
  · subst h6; left; decide +kernel
  right
  have hne : ∀ y ∈ opW, w ≠ y := by
    intro y hy
    simp only [opW, List.mem_cons, List.not_mem_nil, or_false] at hy
    rcases hy with rfl | rfl | rfl | rfl | rfl | rfl | rfl <;> assumption
  constructor
  · have hk : ∀ j, j ≤ 6 → accK w j = 0 := by
      intro j
      induction j with
      | zero => intro _; rfl
      | succ j ih =>
        intro hj
        have := hne _ (getD_mem (show j + 1 < opW.length by show j + 1 < 7; omega) ByteArray.empty)
        rw [accK, ba_toList_eq, decide_eq_false (fun e => this e.symm)]
        exact ih (by omega)
    exact hk 6 (Nat.le_refl _)
  · unfold idxOf
    have : (List.range opW.length).find? (fun k => w.toList == (opW.getD k ByteArray.empty).toList) = none := by
      rw [List.find?_eq_none]
      intro k hk
      have := hne _ (getD_mem (List.mem_range.1 hk) ByteArray.empty)
      rw [ba_toList_eq, decide_eq_false this]; decide
    rw [this]
theorem kind_loop (W : List ByteArray) (hW : 1 ≤ W.length) : loopO (fun s : Int × Int => spec_l09ToOp.s0 W opW s.1 s.2) (1, 0) = some (.out (accK (W.getD 0 ByteArray.empty) 6)) := by
  have h := loopO_run (step := fun s : Int × Int => spec_l09ToOp.s0 W opW s.1 s.2) (fun j => (1 + (j : Int), accK (W.getD 0 ByteArray.empty) j)) 6 (r := .out (accK (W.getD 0 ByteArray.empty) 6)) (fun j hj => by
    have hl : (opW.length : Int) = 7 := rfl
    have h0 : (0 : Int).toNat = 0 := rfl
    simp only [spec_l09ToOp.s0, hl, h0, decide_eq_true (show (1 : Int) + (j : Int) < 7 by omega), cond_true, if_pos (show (0 : Int) ≤ 1 + (j : Int) ∧ 1 + (j : Int) < 7 by omega), if_pos (show (0 : Int) ≤ (0 : Int) ∧ (0 : Int) < (W.length : Int) by omega), show ((1 : Int) + (j : Int)).toNat = j + 1 by omega]
    rw [w64_id (by omega) (by omega)]
    rw [accK]
    cases (opW.getD (j + 1) ByteArray.empty).toList == (W.getD 0 ByteArray.empty).toList
    · simp only [cond_false, Option.bind_some]
      rw [show (1 : Int) + (j : Int) + 1 = 1 + ((j + 1 : Nat) : Int) by omega]
    · simp only [cond_true, Option.bind_some]
      rw [show (1 : Int) + (j : Int) + 1 = 1 + ((j + 1 : Nat) : Int) by omega, show (1 : Int) + (j : Int) = ((j + 1 : Nat) : Int) by omega]) rfl
  rw [show (1 : Int) + ((0 : Nat) : Int) = 1 from rfl] at h
  exact h
/-- What both sides read. -/
theorem words_both (x : ByteArray) (hx : x.size ≤ 1048576) : ∃ W : List ByteArray, spec_l00Words.f x = some W ∧ impl_wordsOf.f x = some W ∧ W.length ≤ 1048577 ∧ (∀ w ∈ W, w.size ≤ 1048576) ∧ ∀ w ∈ W, w ≠ (⟨#[]⟩ : ByteArray) := by
  obtain ⟨l, e1, m1, h1, h2⟩ := wordsOf_eq x hx
  obtain ⟨l2, e2, m2⟩ := l00Words_eq x hx
  have inj : ∀ a b : List ByteArray, a.map bytesOf = b.map bytesOf → a = b := by
    intro a
    induction a with
    | nil => intro b h; cases b with
      | nil => rfl
      | cons y r => cases h
    | cons y r ih => intro b h; cases b with
      | nil => cases h
      | cons z q =>
        simp only [List.map_cons, List.cons.injEq] at h
        rw [ba_ext h.1, ih q h.2]
  have e := inj l l2 (m1.trans m2.symm)
  subst e
  refine ⟨l, e2, e1, h1, h2, fun w hw he => ?_⟩
  have : bytesOf w ∈ wordsL (bytesOf x) := by rw [← m1]; exact List.mem_map.2 ⟨w, hw, rfl⟩
  have h3 := (List.mem_filter.1 this).2
  subst he
  exact absurd h3 (by decide)
noncomputable def sdN (w : ByteArray) : Int × Bool := (spec_l09Number.f w).getD (0, false)
theorem sdN_eq {w : ByteArray} (h : w.size ≤ 1048576) : spec_l09Number.f w = some (sdN w) := by
  obtain ⟨v, b, e, _⟩ := l09Number_spec w h
  unfold sdN; rw [e]; rfl
theorem num_rel {w : ByteArray} (h : w.size ≤ 1048576) : ((sdN w).2 = true → (rdN w).2 = true ∧ (rdN w).1 = (sdN w).1) ∧ ((rdN w).2 = true → 0 ≤ (rdN w).1 → (sdN w).2 = true ∧ (sdN w).1 = (rdN w).1) := by
  obtain ⟨v, b, e, h1, h2⟩ := l09Number_spec w h
  obtain ⟨v', b', e', h1', h2'⟩ := readNumber_spec w h
  have es : sdN w = (v, b) := by unfold sdN; rw [e]; rfl
  have er : rdN w = (v', b') := by unfold rdN; rw [e']; rfl
  rw [es, er]
  constructor
  · intro hb
    obtain ⟨n, hn, hl, hv⟩ := h2 hb
    obtain ⟨a, c⟩ := h1' n hn hl
    exact ⟨c, by simp only; rw [a, hv]⟩
  · intro hb h0
    obtain ⟨n, hn, hl, hv⟩ := h2' hb h0
    obtain ⟨a, c⟩ := h1 n hn hl
    exact ⟨c, by simp only; rw [a, hv]⟩
theorem op_bad {k a b : Int} (h : k < 1 ∨ a < 1 ∨ b < 0) : opOK ⟨k, a, b⟩ = false := by
  cases e : opOK ⟨k, a, b⟩
  · rfl
  · have := opOK_parts e
    simp only at this
    omega
theorem readOp_both (x : ByteArray) (hx : x.size ≤ 1048576) : ∃ r : S_Op × Bool, spec_l09ToOp.f x = some r ∧ impl_readOp.f x = some r ∧ (r.2 = false → r.1 = ⟨0, 0, 0⟩) := by
  obtain ⟨W, e1, e2, hlen, hsz, hne⟩ := words_both x hx
  have ew : spec_l09Words.f = some opW := rfl
  have eo : impl_opWords.f = some opW := rfl
  have hr := readNumbers_eq (W.drop 1) (by rw [List.length_drop]; omega) (fun w hw => hsz w (List.mem_of_mem_drop hw))
  unfold spec_l09ToOp.f impl_readOp.f
  simp only [e1, e2, Option.bind_some]
  by_cases c0 : W.length = 0
  · rw [c0]; exact ⟨_, rfl, rfl, fun _ => rfl⟩
  have hw0 := hne _ (getD_mem (show 0 < W.length by omega) ByteArray.empty)
  have hkl := kind_loop W (by omega)
  have h0 : (0 : Int).toNat = 0 := rfl
  have h1 : (1 : Int).toNat = 1 := rfl
  have h2 : (2 : Int).toNat = 2 := rfl
  rw [show ((W.length : Int) == 0) = false by rw [beq_eq_false_iff_ne]; omega]
  simp only [cond_false, if_pos (show (0 : Int) ≤ (1 : Int) ∧ (1 : Int) ≤ (W.length : Int) by omega), if_pos (show (0 : Int) ≤ (0 : Int) ∧ (0 : Int) < (W.length : Int) by omega), h0, h1, h2, hr, ew, eo, Option.bind_some, index_str opW (W.getD 0 ByteArray.empty) (by decide), hkl, isBare_eq, impl_OpOK_eq, spec_OpOK_eq]
  generalize hk : accK (W.getD 0 ByteArray.empty) 6 = k
  have hkc := kind_cases _ hw0
  rw [hk] at hkc
  by_cases c1 : W.length = 1
  · have hd : W.drop 1 = [] := List.drop_eq_nil_of_le (by omega)
    rw [decide_eq_true (show (W.length : Int) < 2 by omega), hd]
    simp only [cond_true, List.all_nil, List.map_nil, Bool.not_true, cond_false]
    refine ⟨_, rfl, ?_, fun _ => rfl⟩
    rcases hkc with ⟨k1, k6, hi⟩ | ⟨hk0, hi⟩
    · rw [hi, decide_eq_false (show ¬ k < 1 by omega)]
      simp [op_bad (k := k) (a := 0) (b := 0) (by omega)]
    · rw [hi]; rfl
  rw [decide_eq_false (show ¬ (W.length : Int) < 2 by omega)]
  have m1 := hsz _ (getD_mem (show 1 < W.length by omega) ByteArray.empty)
  have hd : W.drop 1 = W.getD 1 ByteArray.empty :: W.drop 2 := by
    rw [List.drop_eq_getElem_cons (show 1 < W.length by omega), getD_lt (show 1 < W.length by omega)]
  simp only [cond_false, if_pos (show (0 : Int) ≤ (1 : Int) ∧ (1 : Int) < (W.length : Int) by omega), sdN_eq m1, Option.bind_some]
  have eu : ((bif k == 1 then (spec_l01Bit.f true).bind fun y76 => some (w64 (3 - y76)) else (spec_l01Bit.f (k == 3)).bind fun y78 => some (w64 (3 - y78))) : Option Int) = some (bif (k == 1 || k == 3) then 2 else 3) := by cases k == 1 <;> cases k == 3 <;> rfl
  rw [eu, hd]
  simp only [Option.bind_some]
  obtain ⟨R1, R2⟩ := num_rel m1
  generalize sdN (W.getD 1 ByteArray.empty) = S at R1 R2 ⊢
  generalize hT : rdN (W.getD 1 ByteArray.empty) = T at R1 R2
  obtain ⟨sv, sb⟩ := S
  obtain ⟨tv, tb⟩ := T
  simp only at R1 R2
  have hbad : ∀ a b : Int, a < 1 ∨ b < 0 → opOK ⟨k, a, b⟩ = false := fun a b h => op_bad (by omega)
  by_cases c2 : W.length = 2
  · have hd2 : W.drop 2 = [] := List.drop_eq_nil_of_le (by omega)
    rw [hd2, c2]
    simp only [List.all_cons, List.all_nil, Bool.and_true, List.map_cons, List.map_nil, hT]
    rcases hkc with ⟨k1, k6, hi⟩ | ⟨hk0, hi⟩
    · rw [hi, decide_eq_false (show ¬ k < 1 by omega)]
      cases hb : (k == 1 || k == 3)
      · refine ⟨(⟨0, 0, 0⟩, false), ?_, ?_, fun _ => rfl⟩
        · cases sb <;> rfl
        · cases tb
          · rfl
          · simp [hbad 0 0 (by omega)]
      · cases sb
        · refine ⟨(⟨0, 0, 0⟩, false), rfl, ?_, fun _ => rfl⟩
          cases tb
          · rfl
          · have : tv < 0 := by
              rcases Int.lt_or_le tv 0 with h | h
              · exact h
              · have := (R2 rfl h).1; cases this
            simp [hbad tv 0 (by omega)]
        · obtain ⟨rfl, rfl⟩ := R1 rfl
          cases ho : opOK ⟨k, tv, 0⟩
          · exact ⟨(⟨0, 0, 0⟩, false), by simp [ho], by simp [ho], fun _ => rfl⟩
          · exact ⟨(⟨k, tv, 0⟩, true), by simp [ho], by simp [ho], fun h => by cases h⟩
    · subst hk0
      rw [hi]
      refine ⟨(⟨0, 0, 0⟩, false), ?_, ?_, fun _ => rfl⟩
      · cases sb <;> rfl
      · cases tb <;> rfl
  have m2 := hsz _ (getD_mem (show 2 < W.length by omega) ByteArray.empty)
  have hd2 : W.drop 2 = W.getD 2 ByteArray.empty :: W.drop 3 := by
    rw [List.drop_eq_getElem_cons (show 2 < W.length by omega), getD_lt (show 2 < W.length by omega)]
  rw [hd2]
  obtain ⟨R3, R4⟩ := num_rel m2
  simp only [if_pos (show (0 : Int) ≤ (2 : Int) ∧ (2 : Int) < (W.length : Int) by omega), sdN_eq m2, Option.bind_some]
  generalize sdN (W.getD 2 ByteArray.empty) = S2 at R3 R4 ⊢
  generalize hT2 : rdN (W.getD 2 ByteArray.empty) = T2 at R3 R4
  obtain ⟨sv2, sb2⟩ := S2
  obtain ⟨tv2, tb2⟩ := T2
  simp only at R3 R4
  by_cases c3 : W.length = 3
  · have hd3 : W.drop 3 = [] := List.drop_eq_nil_of_le (by omega)
    rw [hd3, c3]
    simp only [List.all_cons, List.all_nil, Bool.and_true, List.map_cons, List.map_nil, hT, hT2]
    rcases hkc with ⟨k1, k6, hi⟩ | ⟨hk0, hi⟩
    · rw [hi, decide_eq_false (show ¬ k < 1 by omega)]
      cases hb : (k == 1 || k == 3)
      · cases sb
        · refine ⟨(⟨0, 0, 0⟩, false), rfl, ?_, fun _ => rfl⟩
          cases tb
          · rfl
          · have : tv < 0 := by
              rcases Int.lt_or_le tv 0 with h | h
              · exact h
              · have := (R2 rfl h).1; cases this
            cases tb2
            · rfl
            · simp [hbad tv tv2 (by omega)]
        · obtain ⟨rfl, rfl⟩ := R1 rfl
          cases sb2
          · refine ⟨(⟨0, 0, 0⟩, false), rfl, ?_, fun _ => rfl⟩
            cases tb2
            · rfl
            · have : tv2 < 0 := by
                rcases Int.lt_or_le tv2 0 with h | h
                · exact h
                · have := (R4 rfl h).1; cases this
              simp [hbad tv tv2 (by omega)]
          · obtain ⟨rfl, rfl⟩ := R3 rfl
            cases ho : opOK ⟨k, tv, tv2⟩
            · exact ⟨(⟨0, 0, 0⟩, false), by simp [ho], by simp [ho], fun _ => rfl⟩
            · exact ⟨(⟨k, tv, tv2⟩, true), by simp [ho], by simp [ho], fun h => by cases h⟩
      · refine ⟨(⟨0, 0, 0⟩, false), ?_, ?_, fun _ => rfl⟩
        · cases sb <;> rfl
        · cases tb <;> cases tb2 <;> first | rfl | simp [hbad 0 0 (by omega)]
    · subst hk0
      rw [hi]
      refine ⟨(⟨0, 0, 0⟩, false), ?_, ?_, fun _ => rfl⟩
      · cases sb <;> cases sb2 <;> first | rfl | simp [hbad sv sv2, op_bad (k := 0) (a := sv) (b := sv2) (by omega)]
      · cases tb <;> cases tb2 <;> rfl
  · have hd3 : W.drop 3 = W.getD 3 ByteArray.empty :: W.drop 4 := by
      rw [List.drop_eq_getElem_cons (show 3 < W.length by omega), getD_lt (show 3 < W.length by omega)]
    refine ⟨(⟨0, 0, 0⟩, false), ?_, ?_, fun _ => rfl⟩
    · have hne2 : ((W.length : Int) != (bif (k == 1 || k == 3) then 2 else 3)) = true := by
        cases (k == 1 || k == 3)
        · rw [bne_iff_ne]; simp only [cond_false]; omega
        · rw [bne_iff_ne]; simp only [cond_true]; omega
      rw [hne2]
      cases sb <;> rfl
    · rcases hkc with ⟨k1, k6, hi⟩ | ⟨hk0, hi⟩
      · rw [hi, decide_eq_false (show ¬ k < 1 by omega)]
        cases hal : (W.getD 1 ByteArray.empty :: W.getD 2 ByteArray.empty :: W.drop 3).all fun w => (rdN w).2
        · rfl
        · rw [hd3]
          simp only [cond_true, cond_false, Bool.not_true, Option.bind_some, List.map_cons, List.length_cons]
          rw [show ((((((W.drop 4).map fun w => (rdN w).1).length + 1 + 1 + 1 : Nat)) : Int) == 1) = false by rw [beq_eq_false_iff_ne]; omega, show ((((((W.drop 4).map fun w => (rdN w).1).length + 1 + 1 + 1 : Nat)) : Int) == 2) = false by rw [beq_eq_false_iff_ne]; omega]
          simp [hbad 0 0 (by omega)]
      · rw [hi]
        cases (W.getD 1 ByteArray.empty :: W.getD 2 ByteArray.empty :: W.drop 3).all fun w => (rdN w).2 <;> rfl
theorem pure_laws_FnExactReadOp (x0 : ByteArray) (g0 : (x0.size ≤ maxLen)) : laws_FnExactReadOp.f x0 = some true := by
  unfold laws_FnExactReadOp.f
  by_cases c : (x0.size : Int) > 1048576
  · rw [decide_eq_true c]; rfl
  rw [decide_eq_false c]
  obtain ⟨r, e1, e2, h0⟩ := readOp_both x0 (by omega)
  unfold spec_ReadOp.f impl_ReadOp.f
  obtain ⟨⟨o, b⟩, e1, e2, h0⟩ := (⟨r, e1, e2, h0⟩ : ∃ r : S_Op × Bool, spec_l09ToOp.f x0 = some r ∧ impl_readOp.f x0 = some r ∧ (r.2 = false → r.1 = ⟨0, 0, 0⟩))
  have eq : ∀ p : S_Op, laws_eqOp.f p p = some true := fun p => by unfold laws_eqOp.f; simp
  simp only [areShort1, shortT, cond_false, Option.bind_some, e1, e2]
  by_cases c2 : (x0.size : Int) > 65536
  · rw [decide_eq_true c2, decide_eq_false (show ¬ (x0.size : Int) ≤ 65536 by omega)]
    simp [eq]
  · rw [decide_eq_false c2, decide_eq_true (show (x0.size : Int) ≤ 65536 by omega)]
    cases b <;> simp [eq]
theorem own : ownKnob Tryd.prog.godebug = none := by kernel_rfl
theorem laidOut : laidOutB Tryd.prog = true := by kernel_rfl
theorem gTab : Tryd.prog.globalNamed "internal/strconv.uint64pow10" = some 0 := by kernel_rfl
theorem gTabType : (Tryd.prog.globals[0]?).map (·.type) = some 138 := by kernel_rfl
theorem gCells : Tryd.prog.cellsOf 138 = 20 := by kernel_rfl
theorem gCell1 : Tryd.prog.cellsOf 118 = 1 := by kernel_rfl
theorem table {W : World} (h : laidMetH Tryd.prog Rows.fnExactReadOpRow.laid W) : Lib.TabIs Tryd.prog W "internal/strconv.uint64pow10" .u64 Lib.pow10Tab :=
  Lib.tabIs_of_head gTab gTabType Tryd.underlying138 Tryd.underlying118 gCell1 gCells (laidMet.tail (laidMet.tail (show laidMet Tryd.prog Rows.fnExactReadOpRow.laid W from h)))
def tabCells (d : DataW Unit) : Array Value := match d with | .agg l => (l.map fun x => match x with | .lit (.int k z) => Value.int k z | _ => Value.bool false).toArray | _ => #[]
noncomputable def laidWorld (os : Os) : World := { World.doorLaid Tryd.prog 400 os with heap := ((World.doorLaid Tryd.prog 400 os).heap.modify 4 fun | .cells _ t frozen => .cells (tabCells Rows.laid_unicode_utf8_first) t frozen | o => o) }
theorem rowEs (u : TypeId) (h : Tryd.prog.typeName? 3 u = some "*errors.errorString") : u = 157 :=
  typeName_ptr_named (nm := "errors.errorString") (by rw [show "*" ++ "errors.errorString" = "*errors.errorString" by decide]; kernel_rfl) (by kernel_rfl) (by decide) u (by rw [show "*" ++ "errors.errorString" = "*errors.errorString" by decide]; exact h)
theorem tabR {W : World} (hL : laidMetH Tryd.prog Rows.fnExactReadOpRow.laid W) (hO : W.ShapedOpen Tryd.prog) : TabR Tryd.prog (heapC W) := by
  obtain ⟨a1, s1, hv1, -, -, -⟩ := laid_sentinel (laidMet.tail (laidMet.tail (laidMet.tail (laidMet.tail (laidMet.tail (show laidMet Tryd.prog Rows.fnExactReadOpRow.laid W from hL)))))) (g := 2) (by kernel_rfl) (ti := 103) (by kernel_rfl) Tryd.underlying103 rowEs Tryd.underlying157 Tryd.underlying159 rfl rfl Tryd.underlying9 (by kernel_rfl) (by kernel_rfl)
  obtain ⟨a2, s2, hv2, -, -, -⟩ := laid_sentinel (laidMet.tail (laidMet.tail (laidMet.tail (laidMet.tail (show laidMet Tryd.prog Rows.fnExactReadOpRow.laid W from hL))))) (g := 3) (by kernel_rfl) (ti := 103) (by kernel_rfl) Tryd.underlying103 rowEs Tryd.underlying157 Tryd.underlying159 rfl rfl Tryd.underlying9 (by kernel_rfl) (by kernel_rfl)
  obtain ⟨m, hm⟩ := Go.Proofs.cell_of_shapedOpen_int (g := 1) (zero := #[.int .i64 0]) (t := 3) hO (of_decide_eq_true (by kernel_rfl)) (by kernel_rfl) rfl (by kernel_rfl) (by kernel_rfl) Tryd.underlying3
  obtain ⟨v, hv, hv0⟩ := var_of_cell (P := Tryd.prog) (n := "internal/bytealg.MaxLen") (by kernel_rfl) hm
  exact ⟨tabK_heap (table hL), varK_heap hv ⟨m, hv0⟩, varK_heap hv1 ⟨_, _, rfl⟩, varK_heap hv2 ⟨_, _, rfl⟩⟩
theorem laid_met (os : Os) : laidMet Tryd.prog Rows.fnExactReadOpRow.laid ((laidWorld os).forCall (fun _ _ => 0) ⟨#[], #[.string ⟨#[]⟩], []⟩).memory := laidMet_of_run' 8 (by kernel_rfl) (by kernel_rfl)
theorem reads (os : Os) {H : Type} (enc : TypeId × Value → H) : ∃ places, DataW.whole enc Tryd.prog ((laidWorld os).forCall (fun _ _ => 0) ⟨#[], #[.string ⟨#[]⟩], []⟩).memory Tryd.f6.params.toList Rows.fnExactReadOpSpec.vars false (#[.string ⟨#[]⟩] : Array Value).toList 8 = some ([.lit (.string [])], [], places) := ⟨[], by kernel_rfl⟩
set_option maxRecDepth 100000 in
set_option maxHeartbeats 4000000 in
theorem lifted (os : Os) (started : os.Started) (H : Type) (enc : TypeId × Value → H) (F : Stop.Interp) :
    ReturnsInHanded {} Tryd.checked os 6 .any ((OpenSpec.ofChange Rows.fnExactReadOpSpec).preRow enc Tryd.prog Tryd.f6 Rows.fnExactReadOpRow.domain false Rows.fnExactReadOpRow.laid) (((OpenSpec.ofChange Rows.fnExactReadOpSpec).at F).post enc Tryd.prog Tryd.f6 false true false false) := by
  obtain ⟨places, hx⟩ := reads os enc
  refine returnsInHanded_of_row (C := Tryd.checked) (s := OpenSpec.ofChange Rows.fnExactReadOpSpec) own started (by kernel_rfl) Tryd.func6
    (witness_row_atRef (enc := enc) (C := Tryd.checked) false (laidWorld os) #[.string ⟨#[]⟩] rfl (by kernel_rfl) (by kernel_rfl) (by kernel_rfl)
      (OpenSpec.preRow_of_cond 8 hx (by kernel_rfl) (fun k hk => by cases hk) (by kernel_rfl) (laid_met os))) ?_
  intro W base args ds gs before hval0 hW hcnd _ hsz0 hL hO _
  show Calls Tryd.prog 6 args W fun e W' => ∃ v, e = .returned v ∧ Rows.fnExactReadOpSpec.post enc Tryd.prog Tryd.f6 false true false false W args v W'
  have hval : ∀ (j : Nat) t v, Tryd.f6.params[j]? = some t → args[j]? = some v → Value.okWide Tryd.prog W .any base t v := hval0
  have hW' := hW
  obtain ⟨p, q, hA0, hV, rfl, hfz, hnd⟩ := hW
  have hA : DataW.TrodAll enc Tryd.prog W 0 (fun _ => true) true Tryd.f6.params.toList args.toList ds p := hA0
  rw [Tryd.params6] at hA hval
  obtain ⟨v0, vs0, d0, ds0, p0, q0, hargs, rfl, rfl, h0, r0⟩ := trodAll_cons hA
  obtain ⟨rfl, rfl, rfl⟩ := trodAll_nil r0
  obtain rfl : args = #[v0] := by cases args; simp_all
  obtain ⟨rfl, rfl⟩ := trodVars_none hV
  have k0 := h0
  have lt0 : ∀ x ∈ p0, x.block < W.heap.size := by obtain ⟨m, hm⟩ := k0; exact DataW.trod_lt m _ _ _ hm
  obtain ⟨f0, hf0⟩ := h0
  obtain ⟨y0, hy0, hg0⟩ := (opens_str Tryd.underlying9) H enc f0 _ _ hf0
  obtain rfl : v0 = .string y0 := by
    obtain hv := (hval 0 9 v0 rfl rfl)
    simp only [Value.okWide, Tryd.underlying9, Cell.okWide] at hv
    cases v0 <;> simp_all [Cell.ok, Value.cells, Lay.int, Lay.bool, Lay.str, Lay.flat]
  clear hA0 hval0 hsz0
  refine (laws_FnExactReadOp_t W y0 (heapC W) (tabR hL hO) (heapC_has W) true (pure_laws_FnExactReadOp y0 hg0)).mono fun e W' ⟨v, he, hv, hS⟩ => ?_
  subst he; subst hv
  have bel := hS.below
  exact ⟨_, rfl, _, _, _, [], _, [], hW', trodAll_mk1 (shutB Tryd.underlying4 _), (trodAll_cons_mk (Below.trod laidOut (by kernel_rfl) (of_decide_eq_true (by kernel_rfl)) k0 bel lt0) trodAll_mk0), rfl, bel.frame _, fun h => by cases h⟩
theorem over : Rows.fnExactReadOpRow.holds Tryd.pinned (OpenSpec.ofChange Rows.fnExactReadOpSpec) :=
  OpenClaim.holds_of_cond 6 Tryd.f6 rfl rfl rfl rfl rfl rfl rfl ⟨rfl, rfl, rfl, rfl, rfl⟩ rfl rfl rfl rfl rfl (by kernel_rfl) Tryd.func6 (by kernel_rfl)
    (of_decide_eq_true (by kernel_rfl)) (by unfold Func.isWrapper; first | (rw [if_pos (by decide +kernel)]; kernel_rfl) | (rw [if_neg (by decide +kernel)]; exact ⟨rfl, rfl⟩))
    (fun os started H enc _ F => by rw [OpenClaim.pre_eq_preRow]; exact lifted os started H enc F)
theorem plain (f : FuncId) (fn : Func) (hf : Tryd.pinned.checked.prog.funcNamed "loop.example/g00548/laws.FnExactReadOp" = some f) (hfn : Tryd.pinned.checked.prog.funcs[f]? = some fn) :
    true = Tryd.pinned.checked.prog.looks [] ∧ ∀ (j : Nat) t, fn.params[j]? = some t → Tryd.pinned.checked.prog.wantsStandIn t = false := by
  obtain rfl : f = 6 := Option.some.inj ((show Tryd.prog.funcNamed "loop.example/g00548/laws.FnExactReadOp" = some 6 by kernel_rfl).symm.trans hf) |>.symm
  obtain rfl : fn = Tryd.f6 := (Option.some.inj (Tryd.func6.symm.trans hfn)).symm
  refine ⟨by kernel_rfl, fun j t ht => ?_⟩
  rw [Tryd.params6] at ht
  obtain rfl : t = 9 := by simpa using Array.mem_of_getElem? ht
  exact (show Tryd.prog.wantsStandIn 9 = false by kernel_rfl)
theorem fnExactReadOp_holds : Rows.FnExactReadOpCardSaid :=
  Claim7.holds_tied_plain_at .later [] _ _ _ _ over (fun _ h => by cases h) (by kernel_rfl) (fun _ h => by cases h) fnExactReadOp_row_tie rfl ⟨rfl, rfl⟩ (by kernel_rfl) rfl plain (by kernel_rfl)
end Go.Proofs.YtfjhdkmdidadiaaDoor.RXReadOp
