/- What the models of these functions come to. -/
import Derived.Test.YteablpohefcohaaDoorP0
import Derived.Test.YteablpohefcohaaDoorGXResultText
namespace Go.Proofs.YteablpohefcohaaDoor
open Go Go.Z Go.Proofs Go.MuLone Go.ChangeShapes Go.WideShapes Go.ChangeAt Go.RowKit
set_option linter.unusedVariables false
set_option linter.unusedSimpArgs false
def resOK (x : S_Result) : Bool := inB x.Code 0 19 && (decide ((x.Values.length : Int) ≤ 32) && (x.Values.all (fun v => inB v 0 999999) && (x.Code == 0 || ((x.Values.length : Int) == 0))))
def resInts (l : List S_Result) : List Int := l.flatMap (fun r => [r.Code, (r.Values.length : Int)] ++ r.Values)
theorem resInts_snoc (l : List S_Result) (b : S_Result) : resInts (l ++ [b]) = resInts l ++ [b.Code, (b.Values.length : Int)] ++ b.Values := by simp [resInts]
theorem resInts_len : ∀ (l : List S_Result), (∀ t ∈ l, t.Values.length ≤ 32) → (resInts l).length ≤ 34 * l.length
  | [], _ => Nat.le_refl _
  | a :: l, h => by
    have ih := resInts_len l (fun t ht => h t (List.mem_cons_of_mem _ ht))
    have h1 := h a (List.mem_cons_self ..)
    show (([a.Code, (a.Values.length : Int)] ++ a.Values) ++ resInts l).length ≤ _
    simp only [List.length_append, List.length_cons, List.length_nil]; omega

theorem ok_laws_szIntS (x : List Int) (n : Int) (h0 : 0 ≤ n) (h1 : n ≤ 1048576) (g : (x.length ≤ maxLen ∧ ∀ y : Int, y ∈ x → ((Lit.int .i64 y).wf = true))) : ∃ m, laws_szIntS.f x n = some m ∧ (m < 0 ∨ (0 ≤ m ∧ m ≤ n ∧ (x.length ≤ 1048576))) := by
  have hM : maxLen = 9223372036854775807 := rfl
  have g1 := g.1
  unfold laws_szIntS.f
  rw [w64_id (x := n - (x.length : Int)) (by omega) (by omega)]
  by_cases h : n - (x.length : Int) < 0
  · rw [decide_eq_true h]; exact ⟨_, rfl, .inl (by decide)⟩
  rw [decide_eq_false h]; simp only [cond_false]
  exact ⟨_, rfl, .inr ⟨by omega, by omega, by omega⟩⟩

theorem ok_laws_szResult (x : S_Result) (n : Int) (h0 : 0 ≤ n) (h1 : n ≤ 1048576) (g : (((Lit.int .i64 x.Code).wf = true) ∧ (x.Values.length ≤ maxLen ∧ ∀ y : Int, y ∈ x.Values → ((Lit.int .i64 y).wf = true)))) : ∃ m, laws_szResult.f x n = some m ∧ (m < 0 ∨ (0 ≤ m ∧ m ≤ n ∧ ((x.Values.length ≤ 1048576)))) := by
  have hM : maxLen = 9223372036854775807 := rfl
  unfold laws_szResult.f
  obtain ⟨m1, e1, c1⟩ := ok_laws_szIntS x.Values n (by omega) (by omega) g.2
  rw [e1]; simp only [Option.bind_some]
  rcases c1 with c1 | ⟨p1, q1, r1⟩
  · rw [decide_eq_true c1]; exact ⟨_, rfl, .inl (by decide)⟩
  rw [decide_eq_false (show ¬ m1 < 0 by omega)]; simp only [cond_false]
  exact ⟨_, rfl, .inr ⟨by omega, by omega, r1⟩⟩

theorem l01In_eq (x lo hi : Int) : spec_l01In.f x lo hi = some (inB x lo hi) := by
  unfold spec_l01In.f inB; cases decide (lo ≤ x) <;> rfl

theorem l10ResultOK_eq (x : S_Result) (h : x.Values.length ≤ 1073741824) : spec_l10ResultOK.f x = some (resOK x) := by
  unfold spec_l10ResultOK.f resOK
  have := loopO_scan (step := fun s => spec_l10ResultOK.s0 x s) (fun k => (k : Int)) x.Values.length (fun k => inB (x.Values.getD k 0) 0 999999) (b := false) (t := ()) (fun k hk => by
    simp only [spec_l10ResultOK.s0, decide_eq_true (show (k : Int) < (x.Values.length : Int) by omega), cond_true, if_pos (show (0 : Int) ≤ (k : Int) ∧ (k : Int) < (x.Values.length : Int) by omega), Int.toNat_natCast, l01In_eq, Option.bind_some]
    rw [w64_id (by omega) (by omega)]
    cases inB (x.Values.getD k 0) 0 999999 <;> rfl) (by
    simp only [spec_l10ResultOK.s0]
    rw [decide_eq_false (by omega)]; rfl)
  have this : loopO (fun s => spec_l10ResultOK.s0 x s) 0 = _ := this
  rw [all_range x.Values 0 (fun v => inB v 0 999999)] at this
  simp only [l01In_eq, this, Option.bind_some, bne]
  cases inB x.Code 0 19
  · rfl
  by_cases c : (x.Values.length : Int) > 32
  · rw [decide_eq_true c, decide_eq_false (show ¬ (x.Values.length : Int) ≤ 32 by omega)]; rfl
  rw [decide_eq_false c, decide_eq_true (show (x.Values.length : Int) ≤ 32 by omega)]
  cases x.Code == 0
  · by_cases z : (x.Values.length : Int) > 0
    · rw [decide_eq_true z, show ((x.Values.length : Int) == 0) = false by simp only [beq_eq_false_iff_ne]; omega]
      cases x.Values.all (fun v => inB v 0 999999) <;> rfl
    · rw [decide_eq_false z, show ((x.Values.length : Int) == 0) = true by simp only [beq_iff_eq]; omega]
      cases x.Values.all (fun v => inB v 0 999999) <;> rfl
  · cases x.Values.all (fun v => inB v 0 999999) <;> rfl

theorem digits_step (k : Nat) (hk : k ≤ 1000000000000000000) (m : Nat) : spec_l00Digits.g (m + 1) (k : Int) = (if k < 10 then some (strOfNums [48 + (k : Int)]) else (spec_l00Digits.g m ((k / 10 : Nat) : Int)).bind fun y => if y.size + 1 ≤ 1152921504606846976 then some (y ++ strOfNums [48 + ((k % 10 : Nat) : Int)]) else none) := by
  rw [spec_l00Digits.g]
  have e1 : ((k : Int) == (-9223372036854775808)) = false := by rw [beq_eq_false_iff_ne]; omega
  rw [e1, decide_eq_false (show ¬ (k : Int) < 0 by omega)]
  simp only [cond_false]
  by_cases h : k < 10
  · rw [decide_eq_true (show (k : Int) < 10 by omega), if_pos h, w64_id (by omega) (by omega)]
    have : IntKind.wrap .u8 (48 + (k : Int)) = 48 + (k : Int) := by show (48 + (k : Int)) % 256 = _; omega
    rw [this]; rfl
  · rw [decide_eq_false (show ¬ (k : Int) < 10 by omega), if_neg h]
    have e2 : IntKind.wrap .i64 (Int.tdiv (k : Int) 10) = ((k / 10 : Nat) : Int) := by
      rw [Int.tdiv_eq_ediv_of_nonneg (by omega)]
      have : IntKind.wrap .i64 ((k : Int) / 10) = (k : Int) / 10 := w64_id (by omega) (by omega)
      rw [this]; omega
    have e3 : IntKind.wrap .u8 (w64 (48 + Int.tmod (k : Int) 10)) = 48 + ((k % 10 : Nat) : Int) := by
      rw [Int.tmod_eq_emod_of_nonneg (by omega), w64_id (by omega) (by omega)]
      show (48 + (k : Int) % 10) % 256 = _
      omega
    simp only [cond_false, e2, e3, strOfNums_size, List.length_cons, List.length_nil]
theorem digits_uniq (k : Nat) : k ≤ 1000000000000000000 → (∃ N, spec_l00Digits.g N (k : Int) = some (strOfNums (digL k))) ∧ ∀ m r, spec_l00Digits.g m (k : Int) = some r → r = strOfNums (digL k) := by
  induction k using Nat.strongRecOn with
  | ind k ih =>
    intro hk
    by_cases h : k < 10
    · have hd : digL k = [48 + (k : Int)] := by rw [digL, if_pos h]
      refine ⟨⟨1, by rw [digits_step k hk, if_pos h, hd]⟩, fun m r hr => ?_⟩
      cases m with
      | zero => rw [spec_l00Digits.g] at hr; cases hr
      | succ m => rw [digits_step k hk, if_pos h] at hr; cases hr; rw [hd]
    · have hd : digL k = digL (k / 10) ++ [48 + ((k % 10 : Nat) : Int)] := by rw [digL, if_neg h]
      obtain ⟨⟨N, hN⟩, hu⟩ := ih (k / 10) (by omega) (by omega)
      have hsz : (strOfNums (digL (k / 10))).size + 1 ≤ 1152921504606846976 := by
        rw [strOfNums_size]; have := (digL_len (k / 10)).2; omega
      refine ⟨⟨N + 1, by rw [digits_step k hk, if_neg h, hN]; simp only [Option.bind_some]; rw [if_pos hsz, hd, str_append]⟩, fun m r hr => ?_⟩
      cases m with
      | zero => rw [spec_l00Digits.g] at hr; cases hr
      | succ m =>
        rw [digits_step k hk, if_neg h] at hr
        obtain ⟨y, hy, hr⟩ := Option.bind_eq_some_iff.1 hr
        have := hu m y hy
        subst this
        rw [if_pos hsz] at hr
        cases hr
        rw [hd, str_append]
theorem digits_eq (k : Int) (h0 : 0 ≤ k) (h1 : k ≤ 1000000000000000000) : spec_l00Digits.f k = some (strOfNums (digL k.toNat)) := by
  obtain ⟨⟨N, hN⟩, hu⟩ := digits_uniq k.toNat (by omega)
  have e : ((k.toNat : Nat) : Int) = k := by omega
  rw [e] at hN hu
  unfold spec_l00Digits.f
  exact recO_eq N hN hu

def codeWs : List ByteArray := [(⟨#[111, 107]⟩ : ByteArray), (⟨#[98, 97, 100]⟩ : ByteArray), (⟨#[108, 111, 110, 103]⟩ : ByteArray), (⟨#[102, 111, 114, 109]⟩ : ByteArray), (⟨#[114, 97, 110, 103, 101]⟩ : ByteArray), (⟨#[110, 111, 110, 101]⟩ : ByteArray), (⟨#[109, 97, 110, 121]⟩ : ByteArray), (⟨#[102, 117, 108, 108]⟩ : ByteArray), (⟨#[115, 105, 122, 101]⟩ : ByteArray), (⟨#[116, 97, 103]⟩ : ByteArray), (⟨#[116, 97, 109, 112, 101, 114, 101, 100]⟩ : ByteArray), (⟨#[116, 111, 114, 110]⟩ : ByteArray), (⟨#[115, 116, 97, 115, 104]⟩ : ByteArray), (⟨#[116, 97, 112, 101]⟩ : ByteArray), (⟨#[99, 104, 101, 99, 107]⟩ : ByteArray), (⟨#[112, 101, 110, 100, 105, 110, 103]⟩ : ByteArray), (⟨#[100, 111, 119, 110]⟩ : ByteArray), (⟨#[117, 112]⟩ : ByteArray), (⟨#[115, 112, 101, 110, 116]⟩ : ByteArray), (⟨#[107, 101, 121]⟩ : ByteArray)]
def codeW (c : Int) : ByteArray := codeWs.getD c.toNat ByteArray.empty
theorem codeW_size (c : Int) : (codeW c).size ≤ 100 := by
  unfold codeW
  by_cases h : c.toNat < codeWs.length
  · have h2 : ∀ t ∈ codeWs, t.size ≤ 100 := by
      intro t ht
      simp only [codeWs, List.mem_cons, List.not_mem_nil, or_false] at ht
      rcases ht with rfl | rfl | rfl | rfl | rfl | rfl | rfl | rfl | rfl | rfl | rfl | rfl | rfl | rfl | rfl | rfl | rfl | rfl | rfl | rfl <;> decide
    exact h2 _ (getD_mem h _)
  · rw [List.getD_eq_getElem?_getD, List.getElem?_eq_none (by omega)]; exact Nat.zero_le _
theorem spec_codeWord_eq (c : Int) (h : 0 ≤ c ∧ c ≤ 19) : spec_CodeWord.f c = some (codeW c) := by
  unfold spec_CodeWord.f
  rw [decide_eq_false (show ¬ c < 0 by omega), decide_eq_false (show ¬ c ≥ (20 : Int) by omega)]
  simp only [cond_false, Option.bind_some]
  rw [if_pos (by omega)]; rfl

def rtN (w : ByteArray) (l : List Int) : Nat → ByteArray
  | 0 => w
  | k + 1 => rtN w l k ++ ((⟨#[32]⟩ : ByteArray) ++ strOfNums (digL (l.getD k 0).toNat))
theorem rtN_size (w : ByteArray) (l : List Int) (hw : w.size ≤ 100) (hl : ∀ v ∈ l, 0 ≤ v ∧ v ≤ 999999) : ∀ k, k ≤ l.length → (rtN w l k).size ≤ 100 + 1000010 * k
  | 0, _ => by simpa [rtN] using hw
  | k + 1, h => by
    have ih := rtN_size w l hw hl k (by omega)
    have hv := hl _ (getD_mem (show k < l.length by omega) 0)
    have hd := (digL_len (l.getD k 0).toNat).2
    have h1 : (⟨#[32]⟩ : ByteArray).size = 1 := rfl
    simp only [rtN, ByteArray.size_append, strOfNums_size, h1]; omega
theorem spec_l10Text_eq (x : S_Result) (hc : 0 ≤ x.Code ∧ x.Code ≤ 19) (hl : x.Values.length ≤ 32) (hv : ∀ v ∈ x.Values, 0 ≤ v ∧ v ≤ 999999) : spec_l10Text.f x = some (rtN (codeW x.Code) x.Values x.Values.length) := by
  unfold spec_l10Text.f
  rw [spec_codeWord_eq _ hc]
  have := loopO_run (step := fun s : ByteArray × Int => spec_l10Text.s0 x s.1 s.2) (fun k => (rtN (codeW x.Code) x.Values k, (k : Int))) x.Values.length (r := .out (rtN (codeW x.Code) x.Values x.Values.length)) (fun k hk => by
    have h1 := rtN_size (codeW x.Code) x.Values (codeW_size _) hv k (by omega)
    have h2 := hv _ (getD_mem hk 0)
    have hd := (digL_len (x.Values.getD k 0).toNat).2
    have h3 : (⟨#[32]⟩ : ByteArray).size = 1 := rfl
    simp only [spec_l10Text.s0, decide_eq_true (show (k : Int) < (x.Values.length : Int) by omega), cond_true, if_pos (show (0 : Int) ≤ (k : Int) ∧ (k : Int) < (x.Values.length : Int) by omega), Int.toNat_natCast, digits_eq _ h2.1 (by omega), Option.bind_some]
    rw [if_pos (by simp only [strOfNums_size, h3]; omega), if_pos (by simp only [ByteArray.size_append, strOfNums_size, h3]; omega), w64_id (by omega) (by omega)]
    rfl) (by
    simp only [spec_l10Text.s0]
    rw [decide_eq_false (by omega)]; rfl)
  have this2 : loopO (fun s : ByteArray × Int => spec_l10Text.s0 x s.1 s.2) (codeW x.Code, 0) = _ := this
  simp only [Option.bind_some, this2]

theorem id_laws_toIntS (x : List Int) (h : x.length ≤ 1048576) : laws_toIntS.f x = some x := by
  have hlen : x.length ≤ 1048576 := h
  unfold laws_toIntS.f
  rw [if_pos (by omega)]
  have h0 : ((x.length : Int)).toNat = x.length := by simp
  rw [h0, ← filled_zero x 0]
  have := loopO_run (step := fun s => laws_toIntS.s0 x s.1 s.2) (fun k => (filled x 0 k, (k : Int))) x.length (r := .out x) (fun k hk => by
    have hl := filled_len x 0 k (by omega)
    simp only [laws_toIntS.s0, decide_eq_true (show (k : Int) < (x.length : Int) by omega), cond_true, if_pos (show (0 : Int) ≤ (k : Int) ∧ (k : Int) < (x.length : Int) by omega), Option.bind_some, if_pos (show (0 : Int) ≤ (k : Int) ∧ (k : Int) < ((filled x 0 k).length : Int) by omega), Int.toNat_natCast]
    rw [w64_id (by omega) (by omega), filled_set x 0 k hk]
    rfl) (by
    simp only [laws_toIntS.s0, filled_all]
    rw [decide_eq_false (by omega)]; rfl)
  have this2 : loopO (fun s => laws_toIntS.s0 x s.1 s.2) (filled x 0 0, 0) = some (.out x) := this
  rw [this2]
  rfl

theorem id_laws_toResult (x : S_Result) (h : (x.Values.length ≤ 1048576)) : laws_toResult.f x = some x := by
  unfold laws_toResult.f
  simp only [id_laws_toIntS x.Values h, Option.bind_some]

theorem within_eq (x lo hi : Int) : impl_within.f x lo hi = some (inB x lo hi) := by
  unfold impl_within.f inB; cases decide (lo ≤ x) <;> rfl

theorem isValue_eq (x : Int) : impl_isValue.f x = some (inB x 0 999999) := by unfold impl_isValue.f; rw [within_eq]; rfl

theorem idx_slices_IndexFunc_int_int (l : List Int) (q : Int → Option Bool) (p : Int → Bool) (h : l.length ≤ 1073741824) (hq : ∀ x, x ∈ l → q x = some (p x)) : slices_IndexFunc_int_int.f l q = some (idxOf l 0 p) := by
  unfold slices_IndexFunc_int_int.f idxOf
  have := loopO_find (step := fun s => slices_IndexFunc_int_int.s0 l q s) (fun k => (k : Int)) l.length (fun k => p (l.getD k 0)) (fun k => (k : Int)) (t := ()) (fun k hk => by
    simp only [slices_IndexFunc_int_int.s0, decide_eq_true (show (k : Int) < (l.length : Int) by omega), cond_true, if_pos (show (0 : Int) ≤ (k : Int) ∧ (k : Int) < (l.length : Int) by omega), Int.toNat_natCast, hq _ (getD_mem hk _), Option.bind_some]
    rw [w64_id (by omega) (by omega)]
    cases p (l.getD k 0) <;> rfl) (by
    simp only [slices_IndexFunc_int_int.s0]
    rw [decide_eq_false (by omega)]; rfl)
  rw [show ((0 : Int)) = ((0 : Nat) : Int) from rfl, this]
  cases (List.range l.length).find? (fun k => p (l.getD k 0)) <;> rfl

theorem any_slices_ContainsFunc_int_int (l : List Int) (q : Int → Option Bool) (p : Int → Bool) (h : l.length ≤ 1073741824) (hq : ∀ x, x ∈ l → q x = some (p x)) : slices_ContainsFunc_int_int.f l q = some (l.any p) := by
  unfold slices_ContainsFunc_int_int.f
  rw [idx_slices_IndexFunc_int_int l q p h hq, ← idxOf_any l 0 p]
  rfl

theorem all_impl_areAll_int (l : List Int) (q : Int → Option Bool) (p : Int → Bool) (h : l.length ≤ 1073741824) (hq : ∀ x, x ∈ l → q x = some (p x)) : impl_areAll_int.f l q = some (l.all p) := by
  unfold impl_areAll_int.f
  rw [any_slices_ContainsFunc_int_int l _ (fun x => !p x) h (fun x hx => by unfold impl_areAll_int__c1.f; rw [hq x hx]; rfl)]
  simp only [Option.bind_some, List.any_eq_not_all_not, Bool.not_not]

theorem isResult_eq (x : S_Result) (h : x.Values.length ≤ 1073741824) : impl_isResult.f x = some (resOK x) := by
  unfold impl_isResult.f impl_isCode.f resOK
  simp only [within_eq, all_impl_areAll_int x.Values impl_isValue.f (fun v => inB v 0 999999) h (fun v _ => isValue_eq v), Option.bind_some]
  cases inB x.Code 0 19 <;> cases decide ((x.Values.length : Int) ≤ 32) <;> cases x.Values.all (fun v => inB v 0 999999) <;> cases x.Code == 0 <;> rfl

theorem decDigits_digL (n : Nat) : (Lib.decDigits n).map (fun b => (b.toNat : Int)) = digL n := by
  induction n using Nat.strongRecOn with
  | ind n ih =>
    rw [Lib.decDigits, digL]
    by_cases h : n < 10
    · rw [dif_pos h, if_pos h]
      have : (UInt8.ofNat (48 + n)).toNat = 48 + n := by rw [UInt8.toNat_ofNat']; omega
      simp only [List.map_cons, List.map_nil, this]; rfl
    · rw [dif_neg h, if_neg h, List.map_append, ih (n / 10) (by omega)]
      have : (UInt8.ofNat (48 + n % 10)).toNat = 48 + n % 10 := by rw [UInt8.toNat_ofNat']; omega
      simp only [List.map_cons, List.map_nil, this]; rfl
theorem itoa_eq (x : Int) (h0 : 0 ≤ x) (h1 : x ≤ 9223372036854775807) : strconv_Itoa.f x = some (strOfNums (digL x.toNat)) := by
  unfold strconv_Itoa.f itoaB Lib.itoa
  rw [if_pos ⟨by omega, h1⟩, if_neg (by omega)]
  congr 1
  apply ba_ext
  rw [bytes_str (digL_isB _)]
  exact decDigits_digL _

theorem isCode_eq (x : Int) : impl_isCode.f x = some (inB x 0 19) := by unfold impl_isCode.f; rw [within_eq]; rfl
theorem impl_codeWord_eq (c : Int) (h : 0 ≤ c ∧ c ≤ 19) : impl_CodeWord.f c = some (codeW c) := by
  unfold impl_CodeWord.f impl_codeWords.f
  simp only [isCode_eq, inB_iff.2 h, Bool.not_true, cond_false, Option.bind_some]
  rw [if_pos (by simp only [List.length_cons, List.length_nil]; omega)]; rfl

theorem resultText_eq (x : S_Result) (hc : 0 ≤ x.Code ∧ x.Code ≤ 19) (hl : x.Values.length ≤ 32) (hv : ∀ v ∈ x.Values, 0 ≤ v ∧ v ≤ 999999) : impl_resultText.f x = some (rtN (codeW x.Code) x.Values x.Values.length) := by
  unfold impl_resultText.f
  rw [impl_codeWord_eq _ hc]
  have := loopO_run (step := fun s : ByteArray × Int => impl_resultText.s0 x s.1 s.2) (fun k => (rtN (codeW x.Code) x.Values k, (k : Int))) x.Values.length (r := .out (rtN (codeW x.Code) x.Values x.Values.length)) (fun k hk => by
    have h1 := rtN_size (codeW x.Code) x.Values (codeW_size _) hv k (by omega)
    have h2 := hv _ (getD_mem hk 0)
    have hd := (digL_len (x.Values.getD k 0).toNat).2
    have h3 : (⟨#[32]⟩ : ByteArray).size = 1 := rfl
    simp only [impl_resultText.s0, decide_eq_true (show (k : Int) < (x.Values.length : Int) by omega), cond_true, if_pos (show (0 : Int) ≤ (k : Int) ∧ (k : Int) < (x.Values.length : Int) by omega), Int.toNat_natCast, itoa_eq _ h2.1 (by omega), Option.bind_some]
    rw [if_pos (by simp only [strOfNums_size, h3]; omega), if_pos (by simp only [ByteArray.size_append, strOfNums_size, h3]; omega), w64_id (by omega) (by omega)]
    rfl) (by
    simp only [impl_resultText.s0]
    rw [decide_eq_false (by omega)]; rfl)
  have this2 : loopO (fun s : ByteArray × Int => impl_resultText.s0 x s.1 s.2) (codeW x.Code, 0) = _ := this
  simp only [Option.bind_some, this2]

theorem refl_laws_eqIntS (x : List Int) (h : x.length ≤ 1048576) : laws_eqIntS.f x x = some true := by
  have hlen : x.length ≤ 1048576 := h
  unfold laws_eqIntS.f
  rw [show ((x.length : Int) != (x.length : Int)) = false from by simp]
  have := loopO_run (step := fun s => laws_eqIntS.s0 x x s) (fun k => (k : Int)) x.length (r := .out ()) (fun k hk => by
    simp only [laws_eqIntS.s0, decide_eq_true (show (k : Int) < (x.length : Int) by omega), cond_true, if_pos (show (0 : Int) ≤ (k : Int) ∧ (k : Int) < (x.length : Int) by omega), Int.toNat_natCast, bne_self_eq_false, beq_self_eq_true, Bool.not_true, cond_false, Option.bind_some]
    rw [w64_id (by omega) (by omega)]
    rfl) (by
    simp only [laws_eqIntS.s0]
    rw [decide_eq_false (by omega)]; rfl)
  rw [show ((0 : Int)) = ((0 : Nat) : Int) from rfl, this]
  rfl

theorem reflL_laws_eqIntS (x : List Int) (h : x.length ≤ 1048576) : laws_eqIntS.f x x = some true := by
  have hlen : x.length ≤ 1048576 := h
  unfold laws_eqIntS.f
  rw [show ((x.length : Int) != (x.length : Int)) = false from by simp]
  have := loopO_run (step := fun s => laws_eqIntS.s0 x x s) (fun k => (k : Int)) x.length (r := .out ()) (fun k hk => by
    simp only [laws_eqIntS.s0, decide_eq_true (show (k : Int) < (x.length : Int) by omega), cond_true, if_pos (show (0 : Int) ≤ (k : Int) ∧ (k : Int) < (x.length : Int) by omega), Int.toNat_natCast, bne_self_eq_false, beq_self_eq_true, bs_self, Bool.not_true, cond_false, Option.bind_some]
    rw [w64_id (by omega) (by omega)]
    rfl) (by
    simp only [laws_eqIntS.s0]
    rw [decide_eq_false (by omega)]; rfl)
  rw [show ((0 : Int)) = ((0 : Nat) : Int) from rfl, this]
  rfl

theorem refl_laws_eqResult (x : S_Result) (h : (x.Values.length ≤ 1048576)) : laws_eqResult.f x x = some true := by
  unfold laws_eqResult.f
  simp only [refl_laws_eqIntS x.Values h, bne_self_eq_false, beq_self_eq_true, Bool.not_true, cond_false, Option.bind_some]

theorem reflL_laws_eqResult (x : S_Result) (h : (x.Values.length ≤ 1048576)) : laws_eqResult.f x x = some true := by
  unfold laws_eqResult.f
  simp only [reflL_laws_eqIntS x.Values h, bne_self_eq_false, beq_self_eq_true, bs_self, Bool.not_true, cond_false, Option.bind_some]

end Go.Proofs.YteablpohefcohaaDoor
