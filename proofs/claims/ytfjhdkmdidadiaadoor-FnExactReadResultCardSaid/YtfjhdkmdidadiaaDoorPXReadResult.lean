/- What the models of these functions come to. -/
import Derived.Test.YtfjhdkmdidadiaaDoorP0
import Derived.Test.YtfjhdkmdidadiaaDoorGXReadResultn1
namespace Go.Proofs.YtfjhdkmdidadiaaDoor
open Go Go.Z Go.Proofs Go.MuLone Go.ChangeShapes Go.WideShapes Go.ChangeAt Go.RowKit
set_option linter.unusedVariables false
set_option linter.unusedSimpArgs false
def resOK (x : S_Result) : Bool := inB x.Code 0 19 && (decide ((x.Values.length : Int) ≤ 32) && (x.Values.all (fun v => inB v 0 999999) && (x.Code == 0 || ((x.Values.length : Int) == 0))))
def resInts (l : List S_Result) : List Int := l.flatMap (fun r => [r.Code, (r.Values.length : Int)] ++ r.Values)
theorem resInts_snoc (l : List S_Result) (b : S_Result) : resInts (l ++ [b]) = resInts l ++ [b.Code, (b.Values.length : Int)] ++ b.Values := by simp [resInts]
theorem resInts_len : ∀ (l : List S_Result), (∀ t ∈ l, t.Values.length ≤ 32) → (resInts l).length ≤ 34 * l.length
  | [], _ => Nat.le_refl _
  | a :: l, h => by
    have ih := resInts_len l (fun t ht => h t (List.mem_cons_of_mem _ ht))
    have h1 := h a (List.mem_cons_self ..)
    show (([a.Code, (a.Values.length : Int)] ++ a.Values) ++ resInts l).length ≤ _
    simp only [List.length_append, List.length_cons, List.length_nil]; omega

theorem refl_laws_eqIntS (x : List Int) (h : x.length ≤ 1048576) : laws_eqIntS.f x x = some true := by
  have hlen : x.length ≤ 1048576 := h
  unfold laws_eqIntS.f
  rw [show ((x.length : Int) != (x.length : Int)) = false from by simp]
  have := loopO_run (step := fun s => laws_eqIntS.s0 x x s) (fun k => (k : Int)) x.length (r := .out ()) (fun k hk => by
    simp only [laws_eqIntS.s0, decide_eq_true (show (k : Int) < (x.length : Int) by omega), cond_true, if_pos (show (0 : Int) ≤ (k : Int) ∧ (k : Int) < (x.length : Int) by omega), Int.toNat_natCast, bne_self_eq_false, beq_self_eq_true, Bool.not_true, cond_false, Option.bind_some]
    rw [w64_id (by omega) (by omega)]
    rfl) (by
    simp only [laws_eqIntS.s0]
    rw [decide_eq_false (by omega)]; rfl)
  rw [show ((0 : Int)) = ((0 : Nat) : Int) from rfl, this]
  rfl

theorem reflL_laws_eqIntS (x : List Int) (h : x.length ≤ 1048576) : laws_eqIntS.f x x = some true := by
  have hlen : x.length ≤ 1048576 := h
  unfold laws_eqIntS.f
  rw [show ((x.length : Int) != (x.length : Int)) = false from by simp]
  have := loopO_run (step := fun s => laws_eqIntS.s0 x x s) (fun k => (k : Int)) x.length (r := .out ()) (fun k hk => by
    simp only [laws_eqIntS.s0, decide_eq_true (show (k : Int) < (x.length : Int) by omega), cond_true, if_pos (show (0 : Int) ≤ (k : Int) ∧ (k : Int) < (x.length : Int) by omega), Int.toNat_natCast, bne_self_eq_false, beq_self_eq_true, bs_self, Bool.not_true, cond_false, Option.bind_some]
    rw [w64_id (by omega) (by omega)]
    rfl) (by
    simp only [laws_eqIntS.s0]
    rw [decide_eq_false (by omega)]; rfl)
  rw [show ((0 : Int)) = ((0 : Nat) : Int) from rfl, this]
  rfl

theorem refl_laws_eqResult (x : S_Result) (h : (x.Values.length ≤ 1048576)) : laws_eqResult.f x x = some true := by
  unfold laws_eqResult.f
  simp only [refl_laws_eqIntS x.Values h, bne_self_eq_false, beq_self_eq_true, Bool.not_true, cond_false, Option.bind_some]

theorem reflL_laws_eqResult (x : S_Result) (h : (x.Values.length ≤ 1048576)) : laws_eqResult.f x x = some true := by
  unfold laws_eqResult.f
  simp only [reflL_laws_eqIntS x.Values h, bne_self_eq_false, beq_self_eq_true, bs_self, Bool.not_true, cond_false, Option.bind_some]

theorem l01In_eq (x lo hi : Int) : spec_l01In.f x lo hi = some (inB x lo hi) := by
  unfold spec_l01In.f inB; cases decide (lo ≤ x) <;> rfl

theorem l10ResultOK_eq (x : S_Result) (h : x.Values.length ≤ 1073741824) : spec_l10ResultOK.f x = some (resOK x) := by
  unfold spec_l10ResultOK.f resOK
  have := loopO_scan (step := fun s => spec_l10ResultOK.s0 x s) (fun k => (k : Int)) x.Values.length (fun k => inB (x.Values.getD k 0) 0 999999) (b := false) (t := ()) (fun k hk => by
    simp only [spec_l10ResultOK.s0, decide_eq_true (show (k : Int) < (x.Values.length : Int) by omega), cond_true, if_pos (show (0 : Int) ≤ (k : Int) ∧ (k : Int) < (x.Values.length : Int) by omega), Int.toNat_natCast, l01In_eq, Option.bind_some]
    rw [w64_id (by omega) (by omega)]
    cases inB (x.Values.getD k 0) 0 999999 <;> rfl) (by
    simp only [spec_l10ResultOK.s0]
    rw [decide_eq_false (by omega)]; rfl)
  have this : loopO (fun s => spec_l10ResultOK.s0 x s) 0 = _ := this
  rw [all_range x.Values 0 (fun v => inB v 0 999999)] at this
  simp only [l01In_eq, this, Option.bind_some, bne]
  cases inB x.Code 0 19
  · rfl
  by_cases c : (x.Values.length : Int) > 32
  · rw [decide_eq_true c, decide_eq_false (show ¬ (x.Values.length : Int) ≤ 32 by omega)]; rfl
  rw [decide_eq_false c, decide_eq_true (show (x.Values.length : Int) ≤ 32 by omega)]
  cases x.Code == 0
  · by_cases z : (x.Values.length : Int) > 0
    · rw [decide_eq_true z, show ((x.Values.length : Int) == 0) = false by simp only [beq_eq_false_iff_ne]; omega]
      cases x.Values.all (fun v => inB v 0 999999) <;> rfl
    · rw [decide_eq_false z, show ((x.Values.length : Int) == 0) = true by simp only [beq_iff_eq]; omega]
      cases x.Values.all (fun v => inB v 0 999999) <;> rfl
  · cases x.Values.all (fun v => inB v 0 999999) <;> rfl

def codeWs : List ByteArray := [(⟨#[111, 107]⟩ : ByteArray), (⟨#[98, 97, 100]⟩ : ByteArray), (⟨#[108, 111, 110, 103]⟩ : ByteArray), (⟨#[102, 111, 114, 109]⟩ : ByteArray), (⟨#[114, 97, 110, 103, 101]⟩ : ByteArray), (⟨#[110, 111, 110, 101]⟩ : ByteArray), (⟨#[109, 97, 110, 121]⟩ : ByteArray), (⟨#[102, 117, 108, 108]⟩ : ByteArray), (⟨#[115, 105, 122, 101]⟩ : ByteArray), (⟨#[116, 97, 103]⟩ : ByteArray), (⟨#[116, 97, 109, 112, 101, 114, 101, 100]⟩ : ByteArray), (⟨#[116, 111, 114, 110]⟩ : ByteArray), (⟨#[115, 116, 97, 115, 104]⟩ : ByteArray), (⟨#[116, 97, 112, 101]⟩ : ByteArray), (⟨#[99, 104, 101, 99, 107]⟩ : ByteArray), (⟨#[112, 101, 110, 100, 105, 110, 103]⟩ : ByteArray), (⟨#[100, 111, 119, 110]⟩ : ByteArray), (⟨#[117, 112]⟩ : ByteArray), (⟨#[115, 112, 101, 110, 116]⟩ : ByteArray), (⟨#[107, 101, 121]⟩ : ByteArray)]
def codeW (c : Int) : ByteArray := codeWs.getD c.toNat ByteArray.empty
theorem codeW_size (c : Int) : (codeW c).size ≤ 100 := by
  unfold codeW
  by_cases h : c.toNat < codeWs.length
  · have h2 : ∀ t ∈ codeWs, t.size ≤ 100 := by
      intro t ht
      simp only [codeWs, List.mem_cons, List.not_mem_nil, or_false] at ht
      rcases ht with rfl | rfl | rfl | rfl | rfl | rfl | rfl | rfl | rfl | rfl | rfl | rfl | rfl | rfl | rfl | rfl | rfl | rfl | rfl | rfl <;> decide
    exact h2 _ (getD_mem h _)
  · rw [List.getD_eq_getElem?_getD, List.getElem?_eq_none (by omega)]; exact Nat.zero_le _
theorem spec_codeWord_eq (c : Int) (h : 0 ≤ c ∧ c ≤ 19) : spec_CodeWord.f c = some (codeW c) := by
  unfold spec_CodeWord.f
  rw [decide_eq_false (show ¬ c < 0 by omega), decide_eq_false (show ¬ c ≥ (20 : Int) by omega)]
  simp only [cond_false, Option.bind_some]
  rw [if_pos (by omega)]; rfl

theorem spec_CodeOf_eq (w : ByteArray) : spec_CodeOf.f w = some (idxOf codeWs ByteArray.empty (fun y => w.toList == y.toList)) := by
  unfold spec_CodeOf.f
  have hl : codeWs.length = 20 := rfl
  have := loopO_find (step := fun s => spec_CodeOf.s0 w s) (fun k => (k : Int)) codeWs.length (fun k => w.toList == (codeWs.getD k ByteArray.empty).toList) (fun k => (k : Int)) (t := ()) (fun k hk => by
    simp only [spec_CodeOf.s0, decide_eq_true (show (k : Int) ≤ 19 by omega), cond_true, spec_codeWord_eq (k : Int) (by omega), Option.bind_some, codeW, Int.toNat_natCast]
    rw [w64_id (by omega) (by omega), ba_toList_eq, ba_toList_eq, show decide (codeWs.getD k ByteArray.empty = w) = decide (w = codeWs.getD k ByteArray.empty) from decide_eq_decide.2 ⟨Eq.symm, Eq.symm⟩]
    cases decide (w = codeWs.getD k ByteArray.empty) <;> rfl) (by
    simp only [spec_CodeOf.s0]
    rw [decide_eq_false (by omega)]; rfl)
  have t : loopO (fun s => spec_CodeOf.s0 w s) 0 = _ := this
  rw [t]
  unfold idxOf
  cases (List.range codeWs.length).find? (fun k => w.toList == (codeWs.getD k ByteArray.empty).toList) <;> rfl

theorem digits_step (k : Nat) (hk : k ≤ 1000000000000000000) (m : Nat) : spec_l00Digits.g (m + 1) (k : Int) = (if k < 10 then some (strOfNums [48 + (k : Int)]) else (spec_l00Digits.g m ((k / 10 : Nat) : Int)).bind fun y => if y.size + 1 ≤ 1152921504606846976 then some (y ++ strOfNums [48 + ((k % 10 : Nat) : Int)]) else none) := by
  rw [spec_l00Digits.g]
  have e1 : ((k : Int) == (-9223372036854775808)) = false := by rw [beq_eq_false_iff_ne]; omega
  rw [e1, decide_eq_false (show ¬ (k : Int) < 0 by omega)]
  simp only [cond_false]
  by_cases h : k < 10
  · rw [decide_eq_true (show (k : Int) < 10 by omega), if_pos h, w64_id (by omega) (by omega)]
    have : IntKind.wrap .u8 (48 + (k : Int)) = 48 + (k : Int) := by show (48 + (k : Int)) % 256 = _; omega
    rw [this]; rfl
  · rw [decide_eq_false (show ¬ (k : Int) < 10 by omega), if_neg h]
    have e2 : IntKind.wrap .i64 (Int.tdiv (k : Int) 10) = ((k / 10 : Nat) : Int) := by
      rw [Int.tdiv_eq_ediv_of_nonneg (by omega)]
      have : IntKind.wrap .i64 ((k : Int) / 10) = (k : Int) / 10 := w64_id (by omega) (by omega)
      rw [this]; omega
    have e3 : IntKind.wrap .u8 (w64 (48 + Int.tmod (k : Int) 10)) = 48 + ((k % 10 : Nat) : Int) := by
      rw [Int.tmod_eq_emod_of_nonneg (by omega), w64_id (by omega) (by omega)]
      show (48 + (k : Int) % 10) % 256 = _
      omega
    simp only [cond_false, e2, e3, strOfNums_size, List.length_cons, List.length_nil]
theorem digits_uniq (k : Nat) : k ≤ 1000000000000000000 → (∃ N, spec_l00Digits.g N (k : Int) = some (strOfNums (digL k))) ∧ ∀ m r, spec_l00Digits.g m (k : Int) = some r → r = strOfNums (digL k) := by
  induction k using Nat.strongRecOn with
  | ind k ih =>
    intro hk
    by_cases h : k < 10
    · have hd : digL k = [48 + (k : Int)] := by rw [digL, if_pos h]
      refine ⟨⟨1, by rw [digits_step k hk, if_pos h, hd]⟩, fun m r hr => ?_⟩
      cases m with
      | zero => rw [spec_l00Digits.g] at hr; cases hr
      | succ m => rw [digits_step k hk, if_pos h] at hr; cases hr; rw [hd]
    · have hd : digL k = digL (k / 10) ++ [48 + ((k % 10 : Nat) : Int)] := by rw [digL, if_neg h]
      obtain ⟨⟨N, hN⟩, hu⟩ := ih (k / 10) (by omega) (by omega)
      have hsz : (strOfNums (digL (k / 10))).size + 1 ≤ 1152921504606846976 := by
        rw [strOfNums_size]; have := (digL_len (k / 10)).2; omega
      refine ⟨⟨N + 1, by rw [digits_step k hk, if_neg h, hN]; simp only [Option.bind_some]; rw [if_pos hsz, hd, str_append]⟩, fun m r hr => ?_⟩
      cases m with
      | zero => rw [spec_l00Digits.g] at hr; cases hr
      | succ m =>
        rw [digits_step k hk, if_neg h] at hr
        obtain ⟨y, hy, hr⟩ := Option.bind_eq_some_iff.1 hr
        have := hu m y hy
        subst this
        rw [if_pos hsz] at hr
        cases hr
        rw [hd, str_append]
theorem digits_eq (k : Int) (h0 : 0 ≤ k) (h1 : k ≤ 1000000000000000000) : spec_l00Digits.f k = some (strOfNums (digL k.toNat)) := by
  obtain ⟨⟨N, hN⟩, hu⟩ := digits_uniq k.toNat (by omega)
  have e : ((k.toNat : Nat) : Int) = k := by omega
  rw [e] at hN hu
  unfold spec_l00Digits.f
  exact recO_eq N hN hu

theorem valL_snoc (l : List Int) (x : Int) : valL (l ++ [x]) = 10 * valL l + (x - 48) := by simp [valL, List.foldl_append]
theorem valL_take (l : List Int) (h : ∀ x ∈ l, isDg x) : ∀ k, k ≤ l.length → 0 ≤ valL (l.take k) ∧ valL (l.take k) < 10 ^ k
  | 0, _ => by simp [valL]
  | k + 1, hk => by
    obtain ⟨h1, h2⟩ := valL_take l h k (by omega)
    have hx : 48 ≤ l.getD k 0 ∧ l.getD k 0 ≤ 57 := h _ (getD_mem (by omega) 0)
    rw [take_snoc l k (by omega) 0, valL_snoc, Int.pow_succ]
    omega
theorem number_loop (u : ByteArray) (hu : u.size ≤ 18) : ∃ r, loopO (fun s : Int × Int => spec_l00Number.s0 u s.1 s.2) (0, 0) = some r ∧ ((∀ x ∈ bytesOf u, isDg x) ∧ r = .out (valL (bytesOf u)) ∨ (∃ x ∈ bytesOf u, ¬ isDg x) ∧ r = .ret (0, false)) := by
  have hl := bytesOf_len u
  obtain ⟨r, h1, h2⟩ := loopO_wf (step := fun s : Int × Int => spec_l00Number.s0 u s.1 s.2)
    (fun s => ∃ k : Nat, k ≤ u.size ∧ s = (valL ((bytesOf u).take k), (k : Int)) ∧ ∀ x ∈ (bytesOf u).take k, isDg x)
    (fun r => (∀ x ∈ bytesOf u, isDg x) ∧ r = .out (valL (bytesOf u)) ∨ (∃ x ∈ bytesOf u, ¬ isDg x) ∧ r = .ret (0, false)) (fun s => (u.size - s.2.toNat)) (fun s hI => by
      obtain ⟨k, hk, rfl, hd⟩ := hI
      by_cases c : k < u.size
      · have hb := byteAt_eq u (k : Int) (by omega) (by omega)
        rw [Int.toNat_natCast] at hb
        have hm := getD_mem (show k < (bytesOf u).length by omega) 0
        simp only [spec_l00Number.s0, decide_eq_true (show (k : Int) < (u.size : Int) by omega), cond_true, if_pos (show (0 : Int) ≤ (k : Int) ∧ (k : Int) < (u.size : Int) by omega), hb]
        generalize hx : (bytesOf u).getD k 0 = x at hm
        have hxb := bytesOf_isB u x hm
        by_cases h48 : x < 48
        · rw [decide_eq_true h48]
          exact .inr ⟨_, rfl, .inr ⟨⟨x, hm, fun h => by unfold isDg at h; omega⟩, rfl⟩⟩
        by_cases h57 : x > 57
        · rw [decide_eq_false h48, decide_eq_true h57]
          exact .inr ⟨_, rfl, .inr ⟨⟨x, hm, fun h => by unfold isDg at h; omega⟩, rfl⟩⟩
        rw [decide_eq_false h48, decide_eq_false h57]
        simp only [cond_false, Option.bind_some]
        have hv := valL_take ((bytesOf u).take k) hd k (by rw [List.length_take]; omega)
        rw [List.take_take, Nat.min_self] at hv
        have hp : (10 : Int) ^ k ≤ 100000000000000000 := by
          have : (10 : Nat) ^ k ≤ 10 ^ 17 := Nat.pow_le_pow_right (by decide) (by omega)
          have h2 : ((10 ^ k : Nat) : Int) ≤ ((10 ^ 17 : Nat) : Int) := by exact_mod_cast this
          simpa using h2
        have hw : IntKind.wrap .i64 x = x := w64_id (by omega) (by omega)
        rw [hw, w64_id (x := valL ((bytesOf u).take k) * 10) (by omega) (by omega), w64_id (x := valL ((bytesOf u).take k) * 10 + x) (by omega) (by omega), w64_id (by omega) (by omega), w64_id (by omega) (by omega)]
        refine .inl ⟨_, rfl, ⟨k + 1, by omega, ?_, ?_⟩, by simp only; omega⟩
        · rw [take_snoc (bytesOf u) k (by omega) 0, valL_snoc, hx]
          simp only [Prod.mk.injEq]; omega
        · intro y hy
          rw [take_snoc (bytesOf u) k (by omega) 0, hx] at hy
          rcases List.mem_append.1 hy with hy | hy
          · exact hd y hy
          · rw [List.mem_singleton.1 hy]; unfold isDg; omega
      · have e : k = (bytesOf u).length := by omega
        simp only [spec_l00Number.s0]
        rw [decide_eq_false (by omega)]
        rw [e, List.take_length] at hd ⊢
        exact .inr ⟨_, rfl, .inl ⟨hd, rfl⟩⟩) _ (0, 0) (Nat.le_refl _) ⟨0, Nat.zero_le _, by simp [valL], by simp⟩
  exact ⟨r, h1, h2⟩
theorem digL_head (n : Nat) : (digL n).getD 0 0 = 48 → n = 0 := by
  induction n using Nat.strongRecOn with
  | ind n ih =>
    rw [digL]
    by_cases h : n < 10
    · rw [if_pos h]; intro e
      have : 48 + (n : Int) = 48 := e
      omega
    · rw [if_neg h]; intro e
      have hl := (digL_len (n / 10)).1
      rw [List.getD_eq_getElem?_getD, List.getElem?_append_left (by omega), ← List.getD_eq_getElem?_getD] at e
      have := ih (n / 10) (by omega) e
      omega
theorem valL_bound (u : ByteArray) (hu : u.size ≤ 18) (h : ∀ x ∈ bytesOf u, isDg x) : 0 ≤ valL (bytesOf u) ∧ valL (bytesOf u) ≤ 1000000000000000000 := by
  have hl := bytesOf_len u
  have := valL_take (bytesOf u) h (bytesOf u).length (Nat.le_refl _)
  rw [List.take_length] at this
  have hp : (10 : Int) ^ (bytesOf u).length ≤ 1000000000000000000 := by
    have h1 : (10 : Nat) ^ (bytesOf u).length ≤ 10 ^ 18 := Nat.pow_le_pow_right (by decide) (by omega)
    have h2 : ((10 ^ (bytesOf u).length : Nat) : Int) ≤ ((10 ^ 18 : Nat) : Int) := by exact_mod_cast h1
    simpa using h2
  omega
theorem l00Number_spec (x : ByteArray) (hx : x.size ≤ 1048576) : ∃ v b, spec_l00Number.f x = some (v, b) ∧ (∀ n : Nat, x = strOfNums (digL n) → (digL n).length ≤ 18 → v = n ∧ b = true) ∧ (b = true → v ≤ 1000000000000000000 ∧ ((bytesOf x).getD 0 0 ≠ 45 → x.size ≤ 18)) := by
  have hl := bytesOf_len x
  have hdn : ∀ n : Nat, x = strOfNums (digL n) → bytesOf x = digL n ∧ 1 ≤ x.size := fun n hn => by
    have h1 := bytes_str (digL_isB n)
    rw [← hn] at h1
    exact ⟨h1, by rw [h1] at hl; have := (digL_len n).1; omega⟩
  unfold spec_l00Number.f
  by_cases h0 : x.size = 0
  · have e : x = (⟨#[]⟩ : ByteArray) := ba_ext (by rw [List.eq_nil_of_length_eq_zero (hl.trans h0)]; rfl)
    refine ⟨0, false, by rw [e]; rfl, fun n hn _ => ?_, fun h => by cases h⟩
    have := (hdn n hn).2; omega
  have hb := byteAt_eq x 0 (by omega) (by omega)
  have h0t : (0 : Int).toNat = 0 := rfl
  rw [h0t] at hb
  rw [decide_eq_true (show (x.size : Int) > 0 by omega)]
  simp only [cond_true, if_pos (show (0 : Int) ≤ (0 : Int) ∧ (0 : Int) < (x.size : Int) by omega), Option.bind_some, hb]
  cases hc : (bytesOf x).getD 0 0 == 45
  · simp only [cond_false, Option.bind_some, hb]
    rw [show ((x.size : Int) == 0) = false by rw [beq_eq_false_iff_ne]; omega]
    by_cases h18 : (x.size : Int) > 18
    · rw [decide_eq_true h18]
      refine ⟨0, false, rfl, fun n hn hlen => ?_, fun h => by cases h⟩
      exfalso
      have := (hdn n hn).1
      rw [this] at hl; omega
    rw [decide_eq_false h18]
    simp only [cond_false, if_pos (show (0 : Int) ≤ (0 : Int) ∧ (0 : Int) < (x.size : Int) by omega)]
    obtain ⟨r, hr, hcase⟩ := number_loop x (by omega)
    have fin : ∀ q : Option Bool, q = some false → (∀ w : Option (Int × Bool), w = some (match r with | .out a => (a, true) | .ret p => p) → ∃ v b, w = some (v, b) ∧ (∀ n : Nat, x = strOfNums (digL n) → (digL n).length ≤ 18 → v = n ∧ b = true) ∧ (b = true → v ≤ 1000000000000000000 ∧ ((bytesOf x).getD 0 0 ≠ 45 → x.size ≤ 18))) := fun q _ w hw => by
      rcases hcase with ⟨hd, rfl⟩ | ⟨⟨y, hy, hny⟩, rfl⟩
      · refine ⟨_, _, hw, fun n hn _ => ⟨?_, rfl⟩, fun _ => ⟨(valL_bound x (by omega) hd).2, fun _ => by omega⟩⟩
        rw [(hdn n hn).1, valL_dig]
      · refine ⟨_, _, hw, fun n hn _ => ?_, fun h => by cases h⟩
        exfalso
        rw [(hdn n hn).1] at hy
        exact hny (digL_dg n y hy)
    cases h48 : (bytesOf x).getD 0 0 == 48
    · simp only [cond_false, Option.bind_some, hr]
      refine fin (some false) rfl _ ?_
      rcases hcase with ⟨hd, rfl⟩ | ⟨_, rfl⟩
      · have := valL_bound x (by omega) hd
        simp only
        rw [Int.one_mul, w64_id (by omega) (by omega)]
      · rfl
    · by_cases h1 : (x.size : Int) > 1
      · rw [decide_eq_true h1]
        refine ⟨0, false, rfl, fun n hn hlen => ?_, fun h => by cases h⟩
        exfalso
        have e := (hdn n hn).1
        rw [e, beq_iff_eq] at h48
        have := digL_head n h48
        subst this
        rw [e] at hl
        have : (digL 0).length = 1 := by rw [digL]; rfl
        omega
      · rw [decide_eq_false h1, show decide ((1 : Int) < 0) = false from rfl]
        simp only [cond_true, cond_false, Option.bind_some, hr]
        refine fin (some false) rfl _ ?_
        rcases hcase with ⟨hd, rfl⟩ | ⟨_, rfl⟩
        · have := valL_bound x (by omega) hd
          simp only
          rw [Int.one_mul, w64_id (by omega) (by omega)]
        · rfl
  · have h45 : (bytesOf x).getD 0 0 = 45 := by simpa using hc
    have noN : ∀ n : Nat, x = strOfNums (digL n) → False := fun n hn => by
      have e := (hdn n hn).1
      have := digL_dg n _ (getD_mem (show 0 < (digL n).length by have := (digL_len n).1; omega) 0)
      rw [← e, h45] at this
      unfold isDg at this; omega
    simp only [cond_true, if_pos (show (0 : Int) ≤ (1 : Int) ∧ (1 : Int) ≤ (x.size : Int) by omega), Option.bind_some]
    generalize x.extract (1 : Int).toNat x.size = u
    by_cases u0 : ((u.size : Int) == 0) = true
    · rw [u0]
      exact ⟨0, false, rfl, fun n hn _ => (noN n hn).elim, fun h => by cases h⟩
    rw [show ((u.size : Int) == 0) = false by simpa using u0]
    have u0' : 0 < u.size := by
      rcases Nat.eq_zero_or_pos u.size with h | h
      · exact absurd (by rw [h]; rfl) u0
      · exact h
    by_cases h18 : (u.size : Int) > 18
    · rw [decide_eq_true h18]
      exact ⟨0, false, rfl, fun n hn _ => (noN n hn).elim, fun h => by cases h⟩
    rw [decide_eq_false h18]
    simp only [cond_false, if_pos (show (0 : Int) ≤ (0 : Int) ∧ (0 : Int) < (u.size : Int) by omega)]
    obtain ⟨r, hr, hcase⟩ := number_loop u (by omega)
    cases h48 : byteAt u 0 == 48
    · simp only [cond_false, Option.bind_some, hr]
      rcases hcase with ⟨hd, rfl⟩ | ⟨_, rfl⟩
      · have hv := valL_bound u (by omega) hd
        refine ⟨_, _, rfl, fun n hn _ => (noN n hn).elim, fun _ => ⟨?_, fun h => absurd h45 h⟩⟩
        rw [w64_id (by omega) (by omega)]; omega
      · exact ⟨_, _, rfl, fun n hn _ => (noN n hn).elim, fun h => by cases h⟩
    · rw [show decide ((-1 : Int) < 0) = true from rfl]
      refine ⟨0, false, ?_, fun n hn _ => (noN n hn).elim, fun h => by cases h⟩
      cases decide ((u.size : Int) > 1) <;> rfl

theorem l09Number_spec (x : ByteArray) (hx : x.size ≤ 1048576) : ∃ v b, spec_l09Number.f x = some (v, b) ∧ (∀ n : Nat, x = strOfNums (digL n) → (digL n).length ≤ 18 → v = n ∧ b = true) ∧ (b = true → ∃ n : Nat, x = strOfNums (digL n) ∧ (digL n).length ≤ 18 ∧ v = n) := by
  obtain ⟨v, b, e, h1, h2⟩ := l00Number_spec x hx
  unfold spec_l09Number.f
  simp only [e, Option.bind_some]
  cases b
  · exact ⟨v, false, rfl, fun n hn hl => (by have := (h1 n hn hl).2; cases this), fun h => by cases h⟩
  obtain ⟨hb, hs⟩ := h2 rfl
  simp only [cond_true]
  by_cases h0 : v ≥ 0
  · rw [decide_eq_true h0]
    simp only [cond_true, digits_eq v h0 hb, Option.bind_some]
    refine ⟨v, _, rfl, fun n hn hl => ?_, fun hq => ?_⟩
    · have hv := (h1 n hn hl).1
      refine ⟨hv, ?_⟩
      rw [hv, Int.toNat_natCast, ← hn]; exact bs_self x
    · rw [ba_toList_eq, decide_eq_true_eq] at hq
      refine ⟨v.toNat, hq.symm, ?_, by omega⟩
      have e1 := bytes_str (digL_isB v.toNat)
      rw [hq] at e1
      have hl := bytesOf_len x
      have h18 := hs (by
        rw [e1]
        have h := (digL_len v.toNat).1
        have h2 := digL_dg v.toNat _ (getD_mem (show 0 < (digL v.toNat).length by omega) 0)
        unfold isDg at h2; omega)
      rw [e1] at hl; omega
  · rw [decide_eq_false h0]
    exact ⟨v, false, rfl, fun n hn hl => (by have := (h1 n hn hl).1; omega), fun h => by cases h⟩

theorem within_eq (x lo hi : Int) : impl_within.f x lo hi = some (inB x lo hi) := by
  unfold impl_within.f inB; cases decide (lo ≤ x) <;> rfl

theorem isValue_eq (x : Int) : impl_isValue.f x = some (inB x 0 999999) := by unfold impl_isValue.f; rw [within_eq]; rfl

theorem idx_slices_IndexFunc_int_int (l : List Int) (q : Int → Option Bool) (p : Int → Bool) (h : l.length ≤ 1073741824) (hq : ∀ x, x ∈ l → q x = some (p x)) : slices_IndexFunc_int_int.f l q = some (idxOf l 0 p) := by
  unfold slices_IndexFunc_int_int.f idxOf
  have := loopO_find (step := fun s => slices_IndexFunc_int_int.s0 l q s) (fun k => (k : Int)) l.length (fun k => p (l.getD k 0)) (fun k => (k : Int)) (t := ()) (fun k hk => by
    simp only [slices_IndexFunc_int_int.s0, decide_eq_true (show (k : Int) < (l.length : Int) by omega), cond_true, if_pos (show (0 : Int) ≤ (k : Int) ∧ (k : Int) < (l.length : Int) by omega), Int.toNat_natCast, hq _ (getD_mem hk _), Option.bind_some]
    rw [w64_id (by omega) (by omega)]
    cases p (l.getD k 0) <;> rfl) (by
    simp only [slices_IndexFunc_int_int.s0]
    rw [decide_eq_false (by omega)]; rfl)
  rw [show ((0 : Int)) = ((0 : Nat) : Int) from rfl, this]
  cases (List.range l.length).find? (fun k => p (l.getD k 0)) <;> rfl

theorem any_slices_ContainsFunc_int_int (l : List Int) (q : Int → Option Bool) (p : Int → Bool) (h : l.length ≤ 1073741824) (hq : ∀ x, x ∈ l → q x = some (p x)) : slices_ContainsFunc_int_int.f l q = some (l.any p) := by
  unfold slices_ContainsFunc_int_int.f
  rw [idx_slices_IndexFunc_int_int l q p h hq, ← idxOf_any l 0 p]
  rfl

theorem all_impl_areAll_int (l : List Int) (q : Int → Option Bool) (p : Int → Bool) (h : l.length ≤ 1073741824) (hq : ∀ x, x ∈ l → q x = some (p x)) : impl_areAll_int.f l q = some (l.all p) := by
  unfold impl_areAll_int.f
  rw [any_slices_ContainsFunc_int_int l _ (fun x => !p x) h (fun x hx => by unfold impl_areAll_int__c1.f; rw [hq x hx]; rfl)]
  simp only [Option.bind_some, List.any_eq_not_all_not, Bool.not_not]

theorem isResult_eq (x : S_Result) (h : x.Values.length ≤ 1073741824) : impl_isResult.f x = some (resOK x) := by
  unfold impl_isResult.f impl_isCode.f resOK
  simp only [within_eq, all_impl_areAll_int x.Values impl_isValue.f (fun v => inB v 0 999999) h (fun v _ => isValue_eq v), Option.bind_some]
  cases inB x.Code 0 19 <;> cases decide ((x.Values.length : Int) ≤ 32) <;> cases x.Values.all (fun v => inB v 0 999999) <;> cases x.Code == 0 <;> rfl

theorem idx_slices_IndexFunc_string_string (l : List ByteArray) (q : ByteArray → Option Bool) (p : ByteArray → Bool) (h : l.length ≤ 1073741824) (hq : ∀ x, x ∈ l → q x = some (p x)) : slices_IndexFunc_string_string.f l q = some (idxOf l ByteArray.empty p) := by
  unfold slices_IndexFunc_string_string.f idxOf
  have := loopO_find (step := fun s => slices_IndexFunc_string_string.s0 l q s) (fun k => (k : Int)) l.length (fun k => p (l.getD k ByteArray.empty)) (fun k => (k : Int)) (t := ()) (fun k hk => by
    simp only [slices_IndexFunc_string_string.s0, decide_eq_true (show (k : Int) < (l.length : Int) by omega), cond_true, if_pos (show (0 : Int) ≤ (k : Int) ∧ (k : Int) < (l.length : Int) by omega), Int.toNat_natCast, hq _ (getD_mem hk _), Option.bind_some]
    rw [w64_id (by omega) (by omega)]
    cases p (l.getD k ByteArray.empty) <;> rfl) (by
    simp only [slices_IndexFunc_string_string.s0]
    rw [decide_eq_false (by omega)]; rfl)
  rw [show ((0 : Int)) = ((0 : Nat) : Int) from rfl, this]
  cases (List.range l.length).find? (fun k => p (l.getD k ByteArray.empty)) <;> rfl

theorem any_slices_ContainsFunc_string_string (l : List ByteArray) (q : ByteArray → Option Bool) (p : ByteArray → Bool) (h : l.length ≤ 1073741824) (hq : ∀ x, x ∈ l → q x = some (p x)) : slices_ContainsFunc_string_string.f l q = some (l.any p) := by
  unfold slices_ContainsFunc_string_string.f
  rw [idx_slices_IndexFunc_string_string l q p h hq, ← idxOf_any l ByteArray.empty p]
  rfl

theorem all_impl_areAll_string (l : List ByteArray) (q : ByteArray → Option Bool) (p : ByteArray → Bool) (h : l.length ≤ 1073741824) (hq : ∀ x, x ∈ l → q x = some (p x)) : impl_areAll_string.f l q = some (l.all p) := by
  unfold impl_areAll_string.f
  rw [any_slices_ContainsFunc_string_string l _ (fun x => !p x) h (fun x hx => by unfold impl_areAll_string__c1.f; rw [hq x hx]; rfl)]
  simp only [Option.bind_some, List.any_eq_not_all_not, Bool.not_not]

def shortT (t : ByteArray) : Bool := decide ((t.size : Int) ≤ 65536)
theorem areShort_eq (l : List ByteArray) (h : l.length ≤ 1073741824) : impl_areShort.f l = some (l.all shortT) := by
  unfold impl_areShort.f
  rw [all_impl_areAll_string l impl_areShort_c1.f shortT h (fun x _ => rfl)]; rfl
theorem areShort1 (t : ByteArray) : impl_areShort.f [t] = some (shortT t) := by
  rw [areShort_eq _ (by simp)]; simp

theorem idxOf_first {α : Type} (l : List α) (z : α) (p : α → Bool) : (idxOf l z p = -1 ∧ ∀ x ∈ l, p x = false) ∨ ∃ k : Nat, k < l.length ∧ idxOf l z p = (k : Int) ∧ p (l.getD k z) = true ∧ ∀ j, j < k → p (l.getD j z) = false := by
  unfold idxOf
  cases h : (List.range l.length).find? (fun k => p (l.getD k z)) with
  | none =>
    refine .inl ⟨rfl, fun x hx => ?_⟩
    obtain ⟨j, hj, rfl⟩ := List.mem_iff_getElem.1 hx
    rw [List.find?_eq_none] at h
    have := h j (List.mem_range.2 hj)
    rw [getD_lt hj] at this
    simpa using this
  | some k =>
    rw [List.find?_range_eq_some] at h
    exact .inr ⟨k, by simpa using h.2.1, rfl, by simpa using h.1, fun j hj => by simpa using h.2.2 j hj⟩
theorem deleteFunc_eq (l : List ByteArray) (q : ByteArray → Option Bool) (p : ByteArray → Bool) (h : l.length ≤ 1073741824) (hq : ∀ x, x ∈ l → q x = some (p x)) : slices_DeleteFunc_string_string.f l q = some (l.filter fun x => !p x) := by
  unfold slices_DeleteFunc_string_string.f
  rw [idx_slices_IndexFunc_string_string l q p h hq]
  simp only [Option.bind_some]
  rcases idxOf_first l ByteArray.empty p with ⟨e, hn⟩ | ⟨k, hk, e, hpk, hf⟩
  · rw [e]
    have : l.filter (fun x => !p x) = l := List.filter_eq_self.2 (fun x hx => by rw [hn x hx]; rfl)
    rw [this]; rfl
  · rw [e, show ((k : Int) == -1) = false by rw [beq_eq_false_iff_ne]; omega]
    simp only [cond_false]
    have hk0 : (l.take (k + 1)).filter (fun x => !p x) = l.take k := by
      rw [take_snoc l k hk ByteArray.empty, List.filter_append, List.filter_cons, hpk]
      have : (l.take k).filter (fun x => !p x) = l.take k := List.filter_eq_self.2 (fun x hx => by
        obtain ⟨j, hj, rfl⟩ := List.mem_iff_getElem.1 hx
        rw [List.length_take] at hj
        have := hf j (by omega)
        rw [getD_lt (by omega)] at this
        rw [List.getElem_take, this]; rfl)
      rw [this]; simp
    obtain ⟨r, h1, h2⟩ := loopO_wf (step := fun s : List ByteArray × Int × Int => slices_DeleteFunc_string_string.s0 l q s.1 s.2.1 s.2.2)
      (fun s => ∃ i j : Nat, s.2.1 = (i : Int) ∧ s.2.2 = (j : Int) ∧ i < j ∧ j ≤ l.length ∧ s.1.length = l.length ∧ s.1.take i = (l.take j).filter (fun x => !p x) ∧ s.1.drop j = l.drop j)
      (fun r => ∃ u : List ByteArray, ∃ i : Nat, r = .out (u, (i : Int)) ∧ i ≤ l.length ∧ u.length = l.length ∧ u.take i = l.filter (fun x => !p x)) (fun s => l.length - s.2.2.toNat) (fun s hI => by
        obtain ⟨u, i0, j0⟩ := s
        obtain ⟨i, j, hi, hj, hij, hjl, hu, ht, hd⟩ := hI
        simp only at hi hj hu ht hd
        subst hi; subst hj
        by_cases c : j < l.length
        · have hv : u.getD j ByteArray.empty = l.getD j ByteArray.empty := by
            have := congrArg (fun m => m.getD 0 ByteArray.empty) hd
            simpa [List.getD_eq_getElem?_getD, List.getElem?_drop] using this
          simp only [slices_DeleteFunc_string_string.s0, decide_eq_true (show (j : Int) < (l.length : Int) by omega), cond_true, if_pos (show (0 : Int) ≤ (j : Int) ∧ (j : Int) < (l.length : Int) by omega), Int.toNat_natCast, hv, hq _ (getD_mem c _), Option.bind_some]
          have hlt : l.take (j + 1) = l.take j ++ [l.getD j ByteArray.empty] := take_snoc l j c _
          cases hp : p (l.getD j ByteArray.empty)
          · simp only [Bool.not_false, cond_true, if_pos (show (0 : Int) ≤ (i : Int) ∧ (i : Int) < (l.length : Int) by omega), Option.bind_some]
            refine .inl ⟨_, rfl, ⟨i + 1, j + 1, by simp only; rw [w64_id (by omega) (by omega)]; omega, by simp only; rw [w64_id (by omega) (by omega)]; omega, by omega, by omega, by simp only [List.length_set]; exact hu, ?_, ?_⟩, by simp only; rw [w64_id (by omega) (by omega)]; omega⟩
            · simp only
              rw [take_snoc _ i (by rw [List.length_set]; omega) ByteArray.empty, getD_set_self _ _ _ (by omega), List.take_set_of_le (Nat.le_refl _), ht, hlt, List.filter_append, List.filter_cons, hp]
              rfl
            · simp only
              rw [List.drop_set_of_lt (by omega)]
              have := congrArg (List.drop 1) hd
              simpa [List.drop_drop] using this
          · simp only [Bool.not_true, cond_false, Option.bind_some]
            refine .inl ⟨_, rfl, ⟨i, j + 1, rfl, by simp only; rw [w64_id (by omega) (by omega)]; omega, by omega, by omega, hu, ?_, ?_⟩, by simp only; rw [w64_id (by omega) (by omega)]; omega⟩
            · simp only
              rw [ht, hlt, List.filter_append, List.filter_cons, hp]
              simp
            · have := congrArg (List.drop 1) hd
              simpa [List.drop_drop] using this
        · simp only [slices_DeleteFunc_string_string.s0]
          rw [decide_eq_false (by omega)]
          refine .inr ⟨_, rfl, u, i, rfl, by omega, hu, ?_⟩
          rw [ht, List.take_of_length_le (by omega)]) _ (l, (k : Int), w64 ((k : Int) + 1)) (Nat.le_refl _) ⟨k, k + 1, rfl, by simp only; rw [w64_id (by omega) (by omega)]; omega, by omega, by omega, rfl, hk0.symm, rfl⟩
    rw [h1]
    obtain ⟨u, i, rfl, hi, hu, ht⟩ := h2
    simp only [Option.bind_some]
    rw [if_pos (by omega), if_pos (by omega), Int.toNat_natCast]
    have : (clrL u i ByteArray.empty).take i = u.take i := by
      unfold clrL
      apply List.take_left'
      rw [List.length_take]; omega
    rw [this, ht]

/-! A text cut at its spaces. -/
def sp : List Int → List (List Int)
  | [] => [[]]
  | c :: r => if c = 32 then [] :: sp r else match sp r with
    | [] => [[c]]
    | w :: ws => (c :: w) :: ws
theorem sp_word (r : List Int) : ∀ w : List Int, (∀ x ∈ w, x ≠ 32) → sp (w ++ 32 :: r) = w :: sp r
  | [], _ => by simp [sp]
  | c :: w, h => by
    rw [List.cons_append, sp, if_neg (h c (List.mem_cons_self ..)), sp_word r w (fun x hx => h x (List.mem_cons_of_mem _ hx))]
theorem sp_last : ∀ w : List Int, (∀ x ∈ w, x ≠ 32) → sp w = [w]
  | [], _ => rfl
  | c :: w, h => by rw [sp, if_neg (h c (List.mem_cons_self ..)), sp_last w (fun x hx => h x (List.mem_cons_of_mem _ hx))]
def wordsL (l : List Int) : List (List Int) := (sp l).filter (fun w => !w.isEmpty)
theorem u8_32 (b : UInt8) : ((b.toNat : Int) = 32) ↔ b = 32 := by
  constructor
  · intro h
    have : b.toNat = 32 := by omega
    exact UInt8.toNat_inj.1 (by rw [this]; rfl)
  · rintro rfl; rfl
theorem space_miss (s : ByteArray) (h : Lib.indexB s (⟨#[32]⟩ : ByteArray) = -1) : ∀ x ∈ bytesOf s, x ≠ 32 := by
  have h2 : Lib.indexByte s.data.toList 32 = -1 := (Lib.index_one s.data.toList 32).symm.trans h
  intro x hx e
  obtain ⟨b, hb, rfl⟩ := List.mem_map.1 hx
  obtain ⟨k, hk, rfl⟩ := List.mem_iff_getElem.1 hb
  exact Lib.indexByte_none h2 k (by rw [List.getElem?_eq_getElem hk, (u8_32 _).1 e])
theorem space_hit (s : ByteArray) (i : Nat) (h : Lib.indexB s (⟨#[32]⟩ : ByteArray) = i) : bytesOf s = (bytesOf s).take i ++ 32 :: (bytesOf s).drop (i + 1) ∧ ∀ x ∈ (bytesOf s).take i, x ≠ 32 := by
  have h2 : Lib.indexByte s.data.toList 32 = i := (Lib.index_one s.data.toList 32).symm.trans h
  obtain ⟨h3, h4⟩ := Lib.indexByte_some h2
  have hb : (bytesOf s)[i]? = some 32 := by unfold bytesOf; rw [List.getElem?_map, h3]; rfl
  obtain ⟨hi, he⟩ := List.getElem?_eq_some_iff.1 hb
  refine ⟨?_, fun x hx e => ?_⟩
  · conv => lhs; rw [← List.take_append_drop i (bytesOf s), List.drop_eq_getElem_cons hi, he]
  · obtain ⟨k, hk, rfl⟩ := List.mem_iff_getElem.1 hx
    rw [List.length_take] at hk
    rw [List.getElem_take] at e
    have hk2 : k < s.data.toList.length := by have : (bytesOf s).length = s.data.toList.length := by simp [bytesOf]
                                              omega
    refine h4 k (by omega) ?_
    rw [List.getElem?_eq_getElem hk2]
    have : (bytesOf s)[k] = ((s.data.toList[k]).toNat : Int) := by simp [bytesOf]
    rw [this] at e
    rw [(u8_32 _).1 e]
theorem splitB_sp : ∀ (k : Nat) (s : ByteArray), Lib.countB s (⟨#[32]⟩ : ByteArray) = k → (Lib.splitB (⟨#[32]⟩ : ByteArray) 0 k s).map bytesOf = sp (bytesOf s)
  | 0, s, hk => by
    rcases Lib.indexB_cases s (⟨#[32]⟩ : ByteArray) with hix | ⟨i, hix, _⟩
    · rw [Lib.splitB_zero, sp_last _ (space_miss s hix)]; rfl
    · have := Lib.countB_hit s (⟨#[32]⟩ : ByteArray) i (by decide) hix
      omega
  | k + 1, s, hk => by
    rcases Lib.indexB_cases s (⟨#[32]⟩ : ByteArray) with hix | ⟨i, hix, hroom⟩
    · rw [Lib.countB_miss s _ hix] at hk; omega
    · have hc := Lib.countB_hit s (⟨#[32]⟩ : ByteArray) i (by decide) hix
      obtain ⟨h1, h2⟩ := space_hit s i hix
      have hl := bytesOf_len s
      have h1s : (⟨#[32]⟩ : ByteArray).size = 1 := rfl
      rw [h1s] at hroom
      have ih := splitB_sp k (s.extract (i + (⟨#[32]⟩ : ByteArray).size) s.size) (by omega)
      rw [Lib.splitB_hit _ 0 k s i hix, List.map_cons, ih, bytesOf_extract, bytesOf_extract, h1s]
      conv => rhs; rw [h1, sp_word _ _ h2]
      rw [List.take_of_length_le (l := (bytesOf s).drop (i + 1)) (by rw [List.length_drop]; omega)]
      simp
theorem split_eq (x : ByteArray) (hx : x.size ≤ 1048576) : ∃ l, strings_Split.f x (⟨#[32]⟩ : ByteArray) = some l ∧ l.map bytesOf = sp (bytesOf x) ∧ l.length ≤ 1048577 := by
  unfold strings_Split.f
  rw [if_pos ⟨by omega, by decide⟩]
  refine ⟨_, rfl, splitB_sp _ x rfl, ?_⟩
  rw [Lib.splitB_all _ (by decide) 0 _ x rfl]
  have := Lib.countB_le (⟨#[32]⟩ : ByteArray) (by decide) x.size x (Nat.le_refl _)
  omega

theorem sp_len : ∀ (l : List Int), ∀ w ∈ sp l, w.length ≤ l.length
  | [], w, h => by simp [sp] at h; subst h; simp
  | c :: r, w, h => by
    rw [sp] at h
    split at h
    · rcases List.mem_cons.1 h with rfl | h
      · simp
      · have := sp_len r w h; rw [List.length_cons]; omega
    · split at h
      · simp at h; subst h; simp
      · rename_i w0 ws e
        rcases List.mem_cons.1 h with rfl | h
        · have := sp_len r w0 (by rw [e]; exact List.mem_cons_self ..)
          simp only [List.length_cons]; omega
        · have := sp_len r w (by rw [e]; exact List.mem_cons_of_mem _ h)
          rw [List.length_cons]; omega
theorem wordsOf_eq (x : ByteArray) (hx : x.size ≤ 1048576) : ∃ l, impl_wordsOf.f x = some l ∧ l.map bytesOf = wordsL (bytesOf x) ∧ l.length ≤ 1048577 ∧ ∀ w ∈ l, w.size ≤ 1048576 := by
  obtain ⟨l0, e1, e2, e3⟩ := split_eq x hx
  unfold impl_wordsOf.f
  simp only [e1, Option.bind_some]
  rw [deleteFunc_eq l0 impl_wordsOf_c1.f (fun x => x.toList == (⟨#[]⟩ : ByteArray).toList) (by omega) (fun _ _ => rfl)]
  refine ⟨_, rfl, ?_, Nat.le_trans (List.length_filter_le _ _) e3, fun w hw => ?_⟩
  · unfold wordsL
    rw [← e2, List.filter_map]
    congr 1
    apply List.filter_congr
    intro y _
    simp only [Function.comp]
    rw [ba_toList_eq]
    have h0 := bytesOf_len y
    by_cases h : y = (⟨#[]⟩ : ByteArray)
    · subst h; rfl
    · rw [decide_eq_false h]
      have : bytesOf y ≠ [] := fun e => h (ba_ext (by rw [e]; rfl))
      cases hb : bytesOf y with
      | nil => exact absurd hb this
      | cons a r => rfl
  · have hm := (List.mem_filter.1 hw).1
    have := sp_len (bytesOf x) (bytesOf w) (by rw [← e2]; exact List.mem_map.2 ⟨w, hm, rfl⟩)
    rw [bytesOf_len, bytesOf_len] at this
    omega
theorem wordsL_word (w r : List Int) (h : ∀ x ∈ w, x ≠ 32) : wordsL (w ++ 32 :: r) = (if w = [] then [] else [w]) ++ wordsL r := by
  unfold wordsL
  rw [sp_word r w h, List.filter_cons]
  cases w <;> simp
theorem wordsL_last (w : List Int) (h : ∀ x ∈ w, x ≠ 32) : wordsL w = if w = [] then [] else [w] := by
  unfold wordsL
  rw [sp_last w h, List.filter_cons]
  cases w <;> simp
theorem l00Words_eq (x : ByteArray) (hx : x.size ≤ 1048576) : ∃ l, spec_l00Words.f x = some l ∧ l.map bytesOf = wordsL (bytesOf x) := by
  have hl := bytesOf_len x
  unfold spec_l00Words.f
  obtain ⟨r, h1, h2⟩ := loopO_wf (step := fun s : List ByteArray × Int × Int => spec_l00Words.s0 x s.1 s.2.1 s.2.2)
    (fun t => ∃ s i : Nat, t.2.1 = (s : Int) ∧ t.2.2 = (i : Int) ∧ i ≤ x.size + 1 ∧ s ≤ i ∧ t.1.length ≤ i ∧ (i ≤ x.size → (∀ y ∈ ((bytesOf x).drop s).take (i - s), y ≠ 32) ∧ t.1.map bytesOf ++ wordsL ((bytesOf x).drop s) = wordsL (bytesOf x)) ∧ (i = x.size + 1 → t.1.map bytesOf = wordsL (bytesOf x)))
    (fun r => ∃ l, r = .out l ∧ l.map bytesOf = wordsL (bytesOf x)) (fun t => x.size + 1 - t.2.2.toNat) (fun t hI => by
      obtain ⟨acc, s0, i0⟩ := t
      obtain ⟨s, i, hs, hi, hil, hsi, hal, hA, hB⟩ := hI
      simp only at hs hi hal hA hB
      subst hs; subst hi
      by_cases c : i ≤ x.size
      · obtain ⟨hno, hw⟩ := hA c
        have hadd : ∀ sep : Bool, (((bif (decide ((i : Int) > (s : Int))) then (if 0 ≤ (s : Int) ∧ (s : Int) ≤ (i : Int) ∧ (i : Int) ≤ (x.size : Int) then (if acc.length + ([(x.extract (s : Int).toNat (i : Int).toNat)]).length ≤ 1073741824 then (some (acc ++ ([(x.extract (s : Int).toNat (i : Int).toNat)]))) else none) else none) else (some acc)) : Option ((List ByteArray)))) = some (acc ++ if i > s then [x.extract s i] else []) := fun _ => by
          by_cases g : i > s
          · rw [decide_eq_true (show (i : Int) > (s : Int) by omega), if_pos g, cond_true, if_pos (by omega), if_pos (by simp only [List.length_cons, List.length_nil]; omega)]; rfl
          · rw [decide_eq_false (show ¬ (i : Int) > (s : Int) by omega), if_neg g, List.append_nil]; rfl
        have hword : ((acc ++ if i > s then [x.extract s i] else []).map bytesOf) = acc.map bytesOf ++ (if ((bytesOf x).drop s).take (i - s) = [] then [] else [((bytesOf x).drop s).take (i - s)]) := by
          rw [List.map_append]
          congr 1
          by_cases g : i > s
          · rw [if_pos g, if_neg (fun e => by
              have := congrArg List.length e
              rw [List.length_take, List.length_drop, List.length_nil] at this; omega)]
            simp [bytesOf_extract]
          · rw [if_neg g, if_pos (by rw [show i - s = 0 by omega]; rfl)]; rfl
        have hlen : (acc ++ if i > s then [x.extract s i] else []).length ≤ i + 1 := by
          rw [List.length_append]; split <;> simp <;> omega
        simp only [spec_l00Words.s0, decide_eq_true (show (i : Int) ≤ (x.size : Int) by omega), cond_true, hadd true]
        by_cases ce : i = x.size
        · rw [show ((i : Int) == (x.size : Int)) = true by rw [beq_iff_eq]; omega]
          simp only [cond_true, Option.bind_some]
          rw [w64_id (by omega) (by omega)]
          refine .inl ⟨_, rfl, ⟨i + 1, i + 1, by simp only; omega, by simp only; omega, by omega, Nat.le_refl _, hlen, fun h => by omega, fun _ => ?_⟩, by simp only; omega⟩
          simp only
          have hd : ((bytesOf x).drop s).take (i - s) = (bytesOf x).drop s := List.take_of_length_le (by rw [List.length_drop]; omega)
          rw [hword, ← hw, hd]
          rw [hd] at hno
          rw [wordsL_last _ hno]
        · rw [show ((i : Int) == (x.size : Int)) = false by rw [beq_eq_false_iff_ne]; omega]
          have hb := byteAt_eq x (i : Int) (by omega) (by omega)
          rw [Int.toNat_natCast] at hb
          simp only [cond_false, if_pos (show (0 : Int) ≤ (i : Int) ∧ (i : Int) < (x.size : Int) by omega), Option.bind_some, hb]
          have hsplit : (bytesOf x).drop s = ((bytesOf x).drop s).take (i - s) ++ (bytesOf x).getD i 0 :: (bytesOf x).drop (i + 1) := by
            conv => lhs; rw [← List.take_append_drop (i - s) ((bytesOf x).drop s)]
            rw [List.drop_drop, show s + (i - s) = i by omega, List.drop_eq_getElem_cons (show i < (bytesOf x).length by omega), getD_lt (show i < (bytesOf x).length by omega)]
          cases h32 : (bytesOf x).getD i 0 == 32
          · simp only [cond_false, Option.bind_some]
            rw [w64_id (by omega) (by omega)]
            refine .inl ⟨_, rfl, ⟨s, i + 1, rfl, by simp only; omega, by omega, by omega, by simp only; omega, fun _ => ⟨fun y hy => ?_, hw⟩, fun h => by omega⟩, by simp only; omega⟩
            rw [show i + 1 - s = (i - s) + 1 by omega, take_snoc _ (i - s) (by rw [List.length_drop]; omega) 0] at hy
            rcases List.mem_append.1 hy with hy | hy
            · exact hno y hy
            · rw [List.mem_singleton.1 hy]
              have e : ((bytesOf x).drop s).getD (i - s) 0 = (bytesOf x).getD i 0 := by
                rw [List.getD_eq_getElem?_getD, List.getElem?_drop, show s + (i - s) = i by omega, ← List.getD_eq_getElem?_getD]
              rw [e]
              intro e2
              rw [e2] at h32; cases h32
          · simp only [cond_true, Option.bind_some]
            rw [w64_id (by omega) (by omega)]
            refine .inl ⟨_, rfl, ⟨i + 1, i + 1, by simp only; omega, by simp only; omega, by omega, Nat.le_refl _, hlen, fun _ => ⟨fun y hy => by simp at hy, ?_⟩, fun h => by omega⟩, by simp only; omega⟩
            simp only
            rw [beq_iff_eq] at h32
            rw [h32] at hsplit
            rw [hword, ← hw]
            conv => rhs; rw [hsplit, wordsL_word _ _ hno]
            rw [List.append_assoc]
      · simp only [spec_l00Words.s0]
        rw [decide_eq_false (by omega)]
        exact .inr ⟨_, rfl, acc, rfl, hB (by omega)⟩) _ (([] : List ByteArray), 0, 0) (Nat.le_refl _) ⟨0, 0, rfl, rfl, by omega, Nat.le_refl _, by simp, fun _ => ⟨by simp, by simp⟩, fun h => by omega⟩
  rw [h1]
  obtain ⟨l, rfl, h3⟩ := h2
  exact ⟨l, rfl, h3⟩

theorem decDigits_digL (n : Nat) : (Lib.decDigits n).map (fun b => (b.toNat : Int)) = digL n := by
  induction n using Nat.strongRecOn with
  | ind n ih =>
    rw [Lib.decDigits, digL]
    by_cases h : n < 10
    · rw [dif_pos h, if_pos h]
      have : (UInt8.ofNat (48 + n)).toNat = 48 + n := by rw [UInt8.toNat_ofNat']; omega
      simp only [List.map_cons, List.map_nil, this]; rfl
    · rw [dif_neg h, if_neg h, List.map_append, ih (n / 10) (by omega)]
      have : (UInt8.ofNat (48 + n % 10)).toNat = 48 + n % 10 := by rw [UInt8.toNat_ofNat']; omega
      simp only [List.map_cons, List.map_nil, this]; rfl
theorem itoa_eq (x : Int) (h0 : 0 ≤ x) (h1 : x ≤ 9223372036854775807) : strconv_Itoa.f x = some (strOfNums (digL x.toNat)) := by
  unfold strconv_Itoa.f itoaB Lib.itoa
  rw [if_pos ⟨by omega, h1⟩, if_neg (by omega)]
  congr 1
  apply ba_ext
  rw [bytes_str (digL_isB _)]
  exact decDigits_digL _

theorem parse_digits : ∀ (l : List Int) (acc : Nat), (∀ x ∈ l, isDg x) → (acc + 1) * 10 ^ l.length ≤ 1000000000000000000 → Lib.parseUint10 acc (l.map fun x => UInt8.ofNat x.toNat) = .ok (l.foldl (fun (a : Nat) x => 10 * a + (x - 48).toNat) acc)
  | [], acc, _, _ => rfl
  | x :: r, acc, h, hb => by
    have hx : 48 ≤ x ∧ x ≤ 57 := h x (List.mem_cons_self ..)
    have hc : (UInt8.ofNat x.toNat).toNat = x.toNat := by rw [UInt8.toNat_ofNat']; omega
    have hp : 1 ≤ 10 ^ r.length := Nat.one_le_pow _ _ (by decide)
    rw [List.length_cons, Nat.pow_succ, Nat.mul_comm (10 ^ r.length) 10, ← Nat.mul_assoc] at hb
    have h1 : (acc + 1) * 10 ≤ 1000000000000000000 := Nat.le_trans (Nat.le_mul_of_pos_right _ hp) hb
    have e : acc * 10 + (x.toNat - 48) = 10 * acc + (x - 48).toNat := by omega
    rw [List.map_cons, Lib.parseUint10, hc, if_pos (by omega), if_neg (by omega), if_neg (by omega), e, parse_digits r _ (fun y hy => h y (List.mem_cons_of_mem _ hy)) ?_]
    · rfl
    · exact Nat.le_trans (Nat.mul_le_mul_right _ (by omega)) hb
theorem fold_val : ∀ (l : List Int) (acc : Nat), (∀ x ∈ l, isDg x) → ((l.foldl (fun (a : Nat) x => 10 * a + (x - 48).toNat) acc : Nat) : Int) = l.foldl (fun a x => 10 * a + (x - 48)) (acc : Int)
  | [], acc, _ => rfl
  | x :: r, acc, h => by
    have hx : 48 ≤ x ∧ x ≤ 57 := h x (List.mem_cons_self ..)
    rw [List.foldl_cons, List.foldl_cons, fold_val r _ (fun y hy => h y (List.mem_cons_of_mem _ hy))]
    congr 1
    omega
theorem digL_lt (n : Nat) : n < 10 ^ (digL n).length := by
  induction n using Nat.strongRecOn with
  | ind n ih =>
    rw [digL]
    by_cases h : n < 10
    · rw [if_pos h]; simpa using h
    · rw [if_neg h, List.length_append, List.length_cons, List.length_nil, Nat.pow_succ]
      have := ih (n / 10) (by omega)
      omega
theorem digL_data (n : Nat) : (strOfNums (digL n)).data.toList = (digL n).map fun x => UInt8.ofNat x.toNat := by simp [strOfNums]
theorem atoi_dig (n : Nat) (h : (digL n).length ≤ 18) : strconv_Atoi.f (strOfNums (digL n)) = some ((n : Int), true) := by
  unfold strconv_Atoi.f
  have hs : (strOfNums (digL n)).size ≤ 18 := by rw [strOfNums_size]; exact h
  rw [if_pos (by omega), digL_data]
  have hp := parse_digits (digL n) 0 (digL_dg n) (by
    rw [Nat.zero_add, Nat.one_mul]
    exact Nat.pow_le_pow_right (by decide) h)
  have hv : (digL n).foldl (fun (a : Nat) x => 10 * a + (x - 48).toNat) 0 = n := by
    have h1 := fold_val (digL n) 0 (digL_dg n)
    have h2 := valL_dig n
    unfold valL at h2
    have : ((0 : Nat) : Int) = 0 := rfl
    rw [this, h2] at h1
    omega
  rw [hv] at hp
  have hlt : n < 1000000000000000000 := Nat.lt_of_lt_of_le (digL_lt n) (Nat.pow_le_pow_right (n := 10) (by decide) h)
  have hne : (digL n).length ≥ 1 := (digL_len n).1
  cases hd : digL n with
  | nil => rw [hd] at hne; simp at hne
  | cons x r =>
    have hx : 48 ≤ x ∧ x ≤ 57 := digL_dg n x (by rw [hd]; exact List.mem_cons_self ..)
    have hc : (UInt8.ofNat x.toNat).toNat = x.toNat := by rw [UInt8.toNat_ofNat']; omega
    rw [hd] at hp
    rw [List.map_cons] at hp ⊢
    unfold Lib.atoiAll
    simp only [hc]
    rw [if_neg (by omega)]
    unfold Lib.parseMag
    rw [if_neg (by simp), hp]
    simp only
    rw [if_neg (by omega), if_neg (by omega), if_neg (by omega)]
    rfl

theorem atoiAll_rng (l : List UInt8) (v : Int) (h : Lib.atoiAll l = .ok v) : -9223372036854775808 ≤ v ∧ v ≤ 9223372036854775807 := by
  unfold Lib.atoiAll at h
  split at h
  · cases h
  · rename_i c r
    simp only at h
    split at h
    · cases h
    · cases h
    · rename_i u hu
      split at h
      · cases h
      · split at h
        · cases h
        · rename_i h1 h2
          injection h with h
          subst h
          split
          · rename_i hn
            have : ¬ 9223372036854775808 < u := fun hh => h2 ⟨hn, hh⟩
            omega
          · rename_i hn
            have : ¬ 9223372036854775808 ≤ u := fun hh => h1 ⟨hn, hh⟩
            omega
/-- What is cut off ahead. -/
theorem trim_some (x : ByteArray) : ∃ y, strings_TrimPrefix.f x (⟨#[45]⟩ : ByteArray) = some y ∧ y.size ≤ x.size ∧ ((bytesOf x).getD 0 0 ≠ 45 → y = x) := by
  have h1 : ((⟨#[45]⟩ : ByteArray).size : Int) = 1 := rfl
  unfold strings_TrimPrefix.f internal_stringslite_TrimPrefix.f internal_stringslite_HasPrefix.f
  simp only [h1]
  by_cases c : (x.size : Int) ≥ 1
  · rw [decide_eq_true c]
    simp only [cond_true, if_pos (show (0 : Int) ≤ 1 ∧ (1 : Int) ≤ (x.size : Int) by omega), Option.bind_some, show (1 : Int).toNat = 1 from rfl]
    cases hq : (x.extract 0 1).toList == (⟨#[45]⟩ : ByteArray).toList
    · exact ⟨x, rfl, Nat.le_refl _, fun _ => rfl⟩
    · refine ⟨_, rfl, by rw [ByteArray.size_extract]; omega, fun hne => ?_⟩
      exfalso
      rw [ba_toList_eq, decide_eq_true_eq] at hq
      apply hne
      have h2 := congrArg bytesOf hq
      rw [bytesOf_extract] at h2
      have hl := bytesOf_len x
      have h3 : (bytesOf x).getD 0 0 = ((List.drop 0 (bytesOf x)).take (1 - 0)).getD 0 0 := by
        cases hb : bytesOf x with
        | nil => rfl
        | cons a r => rfl
      rw [h3, h2]; rfl
  · rw [decide_eq_false c]
    exact ⟨x, rfl, Nat.le_refl _, fun _ => rfl⟩
theorem dig_first (n : Nat) : (digL n).getD 0 0 ≠ 45 := by
  have h := (digL_len n).1
  have h2 := digL_dg n _ (getD_mem (show 0 < (digL n).length by omega) 0)
  unfold isDg at h2; omega
theorem readNumber_spec (x : ByteArray) (hx : x.size ≤ 1048576) : ∃ v b, impl_readNumber.f x = some (v, b) ∧ (∀ n : Nat, x = strOfNums (digL n) → (digL n).length ≤ 18 → v = n ∧ b = true) ∧ (b = true → 0 ≤ v → ∃ n : Nat, x = strOfNums (digL n) ∧ (digL n).length ≤ 18 ∧ v = n) := by
  obtain ⟨y, ey, ys, yx⟩ := trim_some x
  have hA : ∃ w c, strconv_Atoi.f x = some (w, c) ∧ (c = true → -9223372036854775808 ≤ w ∧ w ≤ 9223372036854775807) := by
    unfold strconv_Atoi.f
    rw [if_pos (by omega)]
    cases hE : Lib.atoiAll x.data.toList with
    | ok v => exact ⟨v, true, rfl, fun _ => atoiAll_rng _ _ hE⟩
    | range => exact ⟨_, false, rfl, fun h => by cases h⟩
    | _ => exact ⟨0, false, rfl, fun h => by cases h⟩
  obtain ⟨w, c, eA, hw⟩ := hA
  unfold impl_readNumber.f
  simp only [ey, eA, Option.bind_some]
  cases c
  · refine ⟨w, false, rfl, fun n hn hl => ?_, fun h => by cases h⟩
    have := atoi_dig n hl
    rw [← hn, eA] at this; cases this
  simp only [cond_true]
  by_cases h18 : (y.size : Int) ≤ 18
  · rw [decide_eq_true h18]
    have hI : strconv_Itoa.f w = some (itoaB w) := by unfold strconv_Itoa.f; rw [if_pos (hw rfl)]
    simp only [cond_true, hI, Option.bind_some]
    refine ⟨w, _, rfl, fun n hn hl => ?_, fun hb h0 => ?_⟩
    · have := atoi_dig n hl
      rw [← hn, eA] at this
      have e : w = (n : Int) := by injection this with h; injection h
      refine ⟨e, ?_⟩
      have hd : itoaB w = x := by
        have h1 := itoa_eq (n : Int) (by omega) (by have := (hw rfl).2; omega)
        rw [← e, hI] at h1
        rw [Option.some.inj h1, hn, e, Int.toNat_natCast]
      rw [hd]; exact bs_self x
    · rw [ba_toList_eq, decide_eq_true_eq] at hb
      have h1 := itoa_eq w h0 (hw rfl).2
      rw [hI, hb] at h1
      have hxe : x = strOfNums (digL w.toNat) := Option.some.inj h1
      refine ⟨w.toNat, hxe, ?_, by omega⟩
      have hyx : y = x := yx (by rw [hxe, bytes_str (digL_isB _)]; exact dig_first _)
      have hs := strOfNums_size (digL w.toNat)
      rw [← hxe, ← hyx] at hs
      omega
  · rw [decide_eq_false h18]
    refine ⟨w, false, rfl, fun n hn hl => ?_, fun h => by cases h⟩
    exfalso
    apply h18
    have hs := strOfNums_size (digL n)
    rw [← hn] at hs
    omega

noncomputable def rdN (w : ByteArray) : Int × Bool := (impl_readNumber.f w).getD (0, false)
theorem rdN_eq {w : ByteArray} (h : w.size ≤ 1048576) : impl_readNumber.f w = some (rdN w) := by
  obtain ⟨v, b, e, _⟩ := readNumber_spec w h
  unfold rdN; rw [e]; rfl
theorem readNumbers_eq (l : List ByteArray) (hl : l.length ≤ 1048577) (h : ∀ w ∈ l, w.size ≤ 1048576) : impl_readNumbers.f l = some (bif l.all (fun w => (rdN w).2) then (l.map (fun w => (rdN w).1), true) else ([], false)) := by
  unfold impl_readNumbers.f
  obtain ⟨r, h1, h2⟩ := loopO_wf (step := fun s : List Int × Int => impl_readNumbers.s0 l s.1 s.2)
    (fun s => ∃ k : Nat, k ≤ l.length ∧ s.2 = (k : Int) ∧ s.1 = (l.take k).map (fun w => (rdN w).1) ∧ ∀ w ∈ l.take k, (rdN w).2 = true)
    (fun r => (r = .out (l.map (fun w => (rdN w).1)) ∧ ∀ w ∈ l, (rdN w).2 = true) ∨ (r = .ret ([], false) ∧ ∃ w ∈ l, (rdN w).2 = false)) (fun s => l.length - s.2.toNat) (fun s hI => by
      obtain ⟨u, k0⟩ := s
      obtain ⟨k, hk, hk0, hu, hall⟩ := hI
      simp only at hk0 hu
      subst hk0; subst hu
      by_cases c : k < l.length
      · have hm := getD_mem c ByteArray.empty
        simp only [impl_readNumbers.s0, decide_eq_true (show (k : Int) < (l.length : Int) by omega), cond_true, if_pos (show (0 : Int) ≤ (k : Int) ∧ (k : Int) < (l.length : Int) by omega), Int.toNat_natCast, rdN_eq (h _ hm), Option.bind_some]
        cases hb : (rdN (l.getD k ByteArray.empty)).2
        · exact .inr ⟨_, rfl, .inr ⟨rfl, _, hm, hb⟩⟩
        · simp only [Bool.not_true, cond_false]
          rw [if_pos (by simp only [List.length_map, List.length_take, List.length_cons, List.length_nil]; omega), w64_id (by omega) (by omega)]
          refine .inl ⟨_, rfl, ⟨k + 1, by omega, by simp only; omega, ?_, fun w hw => ?_⟩, by simp only; omega⟩
          · simp only
            rw [take_snoc l k c ByteArray.empty, List.map_append]; rfl
          · rw [take_snoc l k c ByteArray.empty] at hw
            rcases List.mem_append.1 hw with hw | hw
            · exact hall w hw
            · rw [List.mem_singleton.1 hw]; exact hb
      · have e : k = l.length := by omega
        simp only [impl_readNumbers.s0]
        rw [decide_eq_false (by omega)]
        rw [e, List.take_length] at hall ⊢
        exact .inr ⟨_, rfl, .inl ⟨rfl, hall⟩⟩) _ (([] : List Int), 0) (Nat.le_refl _) ⟨0, Nat.zero_le _, rfl, rfl, by simp⟩
  rw [h1]
  rcases h2 with ⟨rfl, ha⟩ | ⟨rfl, w, hw, hb⟩
  · rw [List.all_eq_true.2 ha]; rfl
  · have : l.all (fun w => (rdN w).2) = false := List.all_eq_false.2 ⟨w, hw, by rw [hb]; decide⟩
    rw [this]; rfl

theorem index_str (l : List ByteArray) (w : ByteArray) (h : l.length ≤ 1073741824) : slices_Index_string_string.f l w = some (idxOf l ByteArray.empty (fun y => w.toList == y.toList)) := by
  unfold slices_Index_string_string.f
  have := loopO_find (step := fun s => slices_Index_string_string.s0 l w s) (fun k => (k : Int)) l.length (fun k => w.toList == (l.getD k ByteArray.empty).toList) (fun k => (k : Int)) (t := ()) (fun k hk => by
    simp only [slices_Index_string_string.s0, decide_eq_true (show (k : Int) < (l.length : Int) by omega), cond_true, if_pos (show (0 : Int) ≤ (k : Int) ∧ (k : Int) < (l.length : Int) by omega), Int.toNat_natCast]
    rw [w64_id (by omega) (by omega)]
    cases w.toList == (l.getD k ByteArray.empty).toList <;> rfl) (by
    simp only [slices_Index_string_string.s0]
    rw [decide_eq_false (by omega)]; rfl)
  have t : loopO (fun s => slices_Index_string_string.s0 l w s) 0 = _ := this
  rw [t]
  unfold idxOf
  cases (List.range l.length).find? (fun k => w.toList == (l.getD k ByteArray.empty).toList) <;> rfl

theorem impl_CodeOf_eq (w : ByteArray) : impl_CodeOf.f w = some (idxOf codeWs ByteArray.empty (fun y => w.toList == y.toList)) := by
  unfold impl_CodeOf.f
  have e : impl_codeWords.f = some codeWs := rfl
  simp only [e, Option.bind_some, index_str codeWs w (by decide)]

def F_laws_markIntS (q : Int) (x : Int) : Int := q
theorem mk_laws_markIntS (x : List Int) (k : Int) (h0 : 0 ≤ k) (h1 : k ≤ 144115188075855872) (hl : x.length ≤ 1048576) : ∃ m a, laws_markIntS.f x k = some (m, a) ∧ k ≤ m ∧ m ≤ k + 1048576 ∧ a.length = x.length ∧ laws_heldIntS.f a k = some m := by
  have hm := mark_gen (ρ := Int × List Int) x 0 F_laws_markIntS 1 k (fun s => laws_markIntS.s0 x s.1 s.2.1 s.2.2) (by decide) (fun i u q hi hu hg hq1 hq2 => by
    have w1 : w64 (q + 1) = q + 1 := by rw [w64_id (by omega) (by omega)]
    have wi : w64 ((i : Int) + 1) = ((i + 1 : Nat) : Int) := by rw [w64_id (by omega) (by omega)]; omega
    simp only [laws_markIntS.s0, decide_eq_true (show (i : Int) < (x.length : Int) by omega), cond_true, if_pos (show (0 : Int) ≤ (i : Int) ∧ (i : Int) < (x.length : Int) by omega), Int.toNat_natCast, Option.bind_some, w1, wi, List.set_set, getD_set_self _ 0 _ (show i < u.length by omega), getD_set_self _ 0 _ (show i < (u.set i _).length by simp; omega), F_laws_markIntS]) (fun u q => by simp only [laws_markIntS.s0]; rw [decide_eq_false (by omega)]; rfl)
  refine ⟨k + 1 * x.length, mkL x 0 F_laws_markIntS 1 k, ?_, by omega, by omega, mkL_len .., ?_⟩
  · unfold laws_markIntS.f; rw [hm]; rfl
  · have hy := mkL_len x 0 F_laws_markIntS 1 k
    have hh := held_gen (ρ := Int) (mkL x 0 F_laws_markIntS 1 k) 1 k (fun s => laws_heldIntS.s0 (mkL x 0 F_laws_markIntS 1 k) s.1 s.2) (by decide) (fun i hi hq2 hq1 => by
    have hg := mkL_getD x 0 F_laws_markIntS 1 k (show i < x.length by omega)
    generalize hqq : k + 1 * (i : Int) = q at hg hq1 hq2 ⊢
    rw [hy] at hi hq2
    have w1 : w64 (q + 1) = q + 1 := by rw [w64_id (by omega) (by omega)]
    have wi : w64 ((i : Int) + 1) = ((i + 1 : Nat) : Int) := by rw [w64_id (by omega) (by omega)]; omega
    simp only [laws_heldIntS.s0, hy, decide_eq_true (show (i : Int) < (x.length : Int) by omega), cond_true, if_pos (show (0 : Int) ≤ (i : Int) ∧ (i : Int) < (x.length : Int) by omega), Int.toNat_natCast, Option.bind_some, w1, wi, hg, F_laws_markIntS, bne_self_eq_false, beq_self_eq_true, bs_self, Bool.not_true, cond_false]) (fun q => by simp only [laws_heldIntS.s0]; rw [decide_eq_false (by omega)]; rfl)
    rw [hy] at hh
    unfold laws_heldIntS.f; rw [hh]; rfl

theorem mk_laws_markResult (x : S_Result) (k : Int) (h0 : 0 ≤ k) (h1 : k ≤ 144115188074807296) (hl : (x.Values.length ≤ 1048576)) : ∃ m a0, laws_markResult.f x k = some (m, a0) ∧ k ≤ m ∧ m ≤ k + 1048576 ∧ ∀ y : S_Result, y.Values = a0 → laws_heldResult.f y k = some m := by
  obtain ⟨m0, b0, e0, p0, q0, _, r0⟩ := mk_laws_markIntS x.Values k (by omega) (by omega) hl
  refine ⟨m0, b0, ?_, by omega, by omega, ?_⟩
  · unfold laws_markResult.f; simp only [e0, Option.bind_some]
  · intro y y0
    have s0 : laws_heldIntS.f y.Values k = some m0 := by rw [y0]; exact r0
    unfold laws_heldResult.f; simp only [s0, decide_eq_false (show ¬ m0 < 0 by omega), Option.bind_some, cond_false]

/-- What both sides read. -/
theorem words_both (x : ByteArray) (hx : x.size ≤ 1048576) : ∃ W : List ByteArray, spec_l00Words.f x = some W ∧ impl_wordsOf.f x = some W ∧ W.length ≤ 1048577 ∧ (∀ w ∈ W, w.size ≤ 1048576) ∧ ∀ w ∈ W, w ≠ (⟨#[]⟩ : ByteArray) := by
  obtain ⟨l, e1, m1, h1, h2⟩ := wordsOf_eq x hx
  obtain ⟨l2, e2, m2⟩ := l00Words_eq x hx
  have inj : ∀ a b : List ByteArray, a.map bytesOf = b.map bytesOf → a = b := by
    intro a
    induction a with
    | nil => intro b h; cases b with
      | nil => rfl
      | cons y r => cases h
    | cons y r ih => intro b h; cases b with
      | nil => cases h
      | cons z q =>
        simp only [List.map_cons, List.cons.injEq] at h
        rw [ba_ext h.1, ih q h.2]
  have e := inj l l2 (m1.trans m2.symm)
  subst e
  refine ⟨l, e2, e1, h1, h2, fun w hw he => ?_⟩
  have : bytesOf w ∈ wordsL (bytesOf x) := by rw [← m1]; exact List.mem_map.2 ⟨w, hw, rfl⟩
  have h3 := (List.mem_filter.1 this).2
  subst he
  exact absurd h3 (by decide)

noncomputable def sdN (w : ByteArray) : Int × Bool := (spec_l09Number.f w).getD (0, false)
theorem sdN_eq {w : ByteArray} (h : w.size ≤ 1048576) : spec_l09Number.f w = some (sdN w) := by
  obtain ⟨v, b, e, _⟩ := l09Number_spec w h
  unfold sdN; rw [e]; rfl
theorem num_rel {w : ByteArray} (h : w.size ≤ 1048576) : ((sdN w).2 = true → (rdN w).2 = true ∧ (rdN w).1 = (sdN w).1) ∧ ((rdN w).2 = true → 0 ≤ (rdN w).1 → (sdN w).2 = true ∧ (sdN w).1 = (rdN w).1) := by
  obtain ⟨v, b, e, h1, h2⟩ := l09Number_spec w h
  obtain ⟨v', b', e', h1', h2'⟩ := readNumber_spec w h
  have es : sdN w = (v, b) := by unfold sdN; rw [e]; rfl
  have er : rdN w = (v', b') := by unfold rdN; rw [e']; rfl
  rw [es, er]
  constructor
  · intro hb
    obtain ⟨n, hn, hl, hv⟩ := h2 hb
    obtain ⟨a, c⟩ := h1' n hn hl
    exact ⟨c, by simp only; rw [a, hv]⟩
  · intro hb h0
    obtain ⟨n, hn, hl, hv⟩ := h2' hb h0
    obtain ⟨a, c⟩ := h1 n hn hl
    exact ⟨c, by simp only; rw [a, hv]⟩

end Go.Proofs.YtfjhdkmdidadiaaDoor
