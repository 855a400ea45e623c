/- What the models of these functions come to. -/
import Derived.Test.YteablpohefcohaaDoorP0
import Derived.Test.YteablpohefcohaaDoorGXOpText
namespace Go.Proofs.YteablpohefcohaaDoor
open Go Go.Z Go.Proofs Go.MuLone Go.ChangeShapes Go.WideShapes Go.ChangeAt Go.RowKit
set_option linter.unusedVariables false
set_option linter.unusedSimpArgs false
def opOK (o : S_Op) : Bool :=
  inB o.Kind 1 6 && inB o.Key 1 9999 && (bif o.Kind == 1 || o.Kind == 3 then o.Value == 0 else bif o.Kind == 6 then inB o.Value 1 4 else inB o.Value 0 999999)

def wordL (k : Int) : List Int := if k = 1 then [103, 101, 116] else if k = 2 then [112, 117, 116] else if k = 3 then [100, 114, 111, 112] else if k = 4 then [99, 104, 101, 99, 107] else if k = 5 then [97, 100, 100] else [115, 99, 97, 110]
def encOp (o : S_Op) (r : List Int) : List Int := wordL o.Kind ++ (32 :: (digL o.Key.toNat ++ (if o.Kind = 1 ∨ o.Kind = 3 then r else 32 :: (digL o.Value.toNat ++ r))))
theorem encOp_app (o : S_Op) (r : List Int) : encOp o r = encOp o [] ++ r := by
  unfold encOp
  split <;> simp
theorem ND_cons {x : Int} {r : List Int} (h : ¬ isDg x) : ND (x :: r) := fun y s e => by cases e; exact h

theorem l01In_eq (x lo hi : Int) : spec_l01In.f x lo hi = some (inB x lo hi) := by
  unfold spec_l01In.f inB; cases decide (lo ≤ x) <;> rfl

theorem spec_OpOK_eq (o : S_Op) : spec_OpOK.f o = some (opOK o) := by
  unfold spec_OpOK.f opOK
  simp only [l01In_eq, Option.bind_some]
  cases inB o.Kind 1 6 <;> cases inB o.Key 1 9999 <;> cases o.Kind == 1 <;> cases o.Kind == 3 <;> cases o.Kind == 6 <;> rfl

theorem digits_step (k : Nat) (hk : k ≤ 1000000000000000000) (m : Nat) : spec_l00Digits.g (m + 1) (k : Int) = (if k < 10 then some (strOfNums [48 + (k : Int)]) else (spec_l00Digits.g m ((k / 10 : Nat) : Int)).bind fun y => if y.size + 1 ≤ 1152921504606846976 then some (y ++ strOfNums [48 + ((k % 10 : Nat) : Int)]) else none) := by
  rw [spec_l00Digits.g]
  have e1 : ((k : Int) == (-9223372036854775808)) = false := by rw [beq_eq_false_iff_ne]; omega
  rw [e1, decide_eq_false (show ¬ (k : Int) < 0 by omega)]
  simp only [cond_false]
  by_cases h : k < 10
  · rw [decide_eq_true (show (k : Int) < 10 by omega), if_pos h, w64_id (by omega) (by omega)]
    have : IntKind.wrap .u8 (48 + (k : Int)) = 48 + (k : Int) := by show (48 + (k : Int)) % 256 = _; omega
    rw [this]; rfl
  · rw [decide_eq_false (show ¬ (k : Int) < 10 by omega), if_neg h]
    have e2 : IntKind.wrap .i64 (Int.tdiv (k : Int) 10) = ((k / 10 : Nat) : Int) := by
      rw [Int.tdiv_eq_ediv_of_nonneg (by omega)]
      have : IntKind.wrap .i64 ((k : Int) / 10) = (k : Int) / 10 := w64_id (by omega) (by omega)
      rw [this]; omega
    have e3 : IntKind.wrap .u8 (w64 (48 + Int.tmod (k : Int) 10)) = 48 + ((k % 10 : Nat) : Int) := by
      rw [Int.tmod_eq_emod_of_nonneg (by omega), w64_id (by omega) (by omega)]
      show (48 + (k : Int) % 10) % 256 = _
      omega
    simp only [cond_false, e2, e3, strOfNums_size, List.length_cons, List.length_nil]
theorem digits_uniq (k : Nat) : k ≤ 1000000000000000000 → (∃ N, spec_l00Digits.g N (k : Int) = some (strOfNums (digL k))) ∧ ∀ m r, spec_l00Digits.g m (k : Int) = some r → r = strOfNums (digL k) := by
  induction k using Nat.strongRecOn with
  | ind k ih =>
    intro hk
    by_cases h : k < 10
    · have hd : digL k = [48 + (k : Int)] := by rw [digL, if_pos h]
      refine ⟨⟨1, by rw [digits_step k hk, if_pos h, hd]⟩, fun m r hr => ?_⟩
      cases m with
      | zero => rw [spec_l00Digits.g] at hr; cases hr
      | succ m => rw [digits_step k hk, if_pos h] at hr; cases hr; rw [hd]
    · have hd : digL k = digL (k / 10) ++ [48 + ((k % 10 : Nat) : Int)] := by rw [digL, if_neg h]
      obtain ⟨⟨N, hN⟩, hu⟩ := ih (k / 10) (by omega) (by omega)
      have hsz : (strOfNums (digL (k / 10))).size + 1 ≤ 1152921504606846976 := by
        rw [strOfNums_size]; have := (digL_len (k / 10)).2; omega
      refine ⟨⟨N + 1, by rw [digits_step k hk, if_neg h, hN]; simp only [Option.bind_some]; rw [if_pos hsz, hd, str_append]⟩, fun m r hr => ?_⟩
      cases m with
      | zero => rw [spec_l00Digits.g] at hr; cases hr
      | succ m =>
        rw [digits_step k hk, if_neg h] at hr
        obtain ⟨y, hy, hr⟩ := Option.bind_eq_some_iff.1 hr
        have := hu m y hy
        subst this
        rw [if_pos hsz] at hr
        cases hr
        rw [hd, str_append]
theorem digits_eq (k : Int) (h0 : 0 ≤ k) (h1 : k ≤ 1000000000000000000) : spec_l00Digits.f k = some (strOfNums (digL k.toNat)) := by
  obtain ⟨⟨N, hN⟩, hu⟩ := digits_uniq k.toNat (by omega)
  have e : ((k.toNat : Nat) : Int) = k := by omega
  rw [e] at hN hu
  unfold spec_l00Digits.f
  exact recO_eq N hN hu

theorem opOK_parts {o : S_Op} (h : opOK o = true) : (1 ≤ o.Kind ∧ o.Kind ≤ 6) ∧ (1 ≤ o.Key ∧ o.Key ≤ 9999) ∧ (0 ≤ o.Value ∧ o.Value ≤ 999999) ∧ ((o.Kind = 1 ∨ o.Kind = 3) → o.Value = 0) := by
  unfold opOK at h
  simp only [Bool.and_eq_true] at h
  obtain ⟨⟨h1, h2⟩, h3⟩ := h
  have h1' := inB_iff.1 h1
  have h2' := inB_iff.1 h2
  by_cases hb : o.Kind = 1 ∨ o.Kind = 3
  · have : (o.Kind == 1 || o.Kind == 3) = true := by simpa using hb
    rw [this] at h3
    simp only [cond_true, beq_iff_eq] at h3
    exact ⟨h1', h2', by omega, fun _ => h3⟩
  · have : (o.Kind == 1 || o.Kind == 3) = false := by simpa using hb
    rw [this] at h3
    simp only [cond_false] at h3
    by_cases h6 : o.Kind = 6
    · rw [show (o.Kind == 6) = true from by simpa using h6] at h3
      have := inB_iff.1 h3
      exact ⟨h1', h2', by omega, fun h => absurd h hb⟩
    · rw [show (o.Kind == 6) = false from by simpa using h6] at h3
      have := inB_iff.1 h3
      exact ⟨h1', h2', by omega, fun h => absurd h hb⟩
theorem encOp_inj {o p : S_Op} {r s : List Int} (ho : opOK o = true) (hp : opOK p = true) (hr : ND r) (hs : ND s) (h : encOp o r = encOp p s) : o = p ∧ r = s := by
  obtain ⟨ok1, ok2, ok3, ok4⟩ := opOK_parts ho
  obtain ⟨pk1, pk2, pk3, pk4⟩ := opOK_parts hp
  have n32 : ¬ isDg 32 := by unfold isDg; omega
  unfold encOp at h
  have key : o.Kind = p.Kind ∧ (digL o.Key.toNat ++ (if o.Kind = 1 ∨ o.Kind = 3 then r else 32 :: (digL o.Value.toNat ++ r))) = (digL p.Key.toNat ++ (if p.Kind = 1 ∨ p.Kind = 3 then s else 32 :: (digL p.Value.toNat ++ s))) := by
    have ho1 : o.Kind = 1 ∨ o.Kind = 2 ∨ o.Kind = 3 ∨ o.Kind = 4 ∨ o.Kind = 5 ∨ o.Kind = 6 := by omega
    have hp1 : p.Kind = 1 ∨ p.Kind = 2 ∨ p.Kind = 3 ∨ p.Kind = 4 ∨ p.Kind = 5 ∨ p.Kind = 6 := by omega
    rcases ho1 with e | e | e | e | e | e <;> rcases hp1 with f | f | f | f | f | f <;> rw [e, f] at h ⊢ <;> simp [wordL] at h ⊢ <;> exact h
  obtain ⟨hk, h2⟩ := key
  rw [hk] at h2
  by_cases hb : p.Kind = 1 ∨ p.Kind = 3
  · rw [if_pos hb, if_pos hb] at h2
    obtain ⟨h3, h4⟩ := dig_inj hr hs h2
    have e1 := ok4 (hk ▸ hb)
    have e2 := pk4 hb
    refine ⟨?_, h4⟩
    obtain ⟨a, b, c⟩ := o
    obtain ⟨a', b', c'⟩ := p
    simp only at *
    have : b = b' := by omega
    rw [hk, this, e1, e2]
  · rw [if_neg hb, if_neg hb] at h2
    obtain ⟨h3, h4⟩ := dig_inj (ND_cons n32) (ND_cons n32) h2
    simp only [List.cons.injEq, true_and] at h4
    obtain ⟨h5, h6⟩ := dig_inj hr hs h4
    refine ⟨?_, h6⟩
    obtain ⟨a, b, c⟩ := o
    obtain ⟨a', b', c'⟩ := p
    simp only at *
    have : b = b' := by omega
    have : c = c' := by omega
    subst hk; subst b; subst c; rfl
theorem wordL_len (k : Int) : (wordL k).length ≤ 5 := by
  unfold wordL
  (repeat' split) <;> simp
theorem encOp_len {o : S_Op} (ho : opOK o = true) : (encOp o []).length ≤ 2000000 := by
  obtain ⟨ok1, ok2, ok3, ok4⟩ := opOK_parts ho
  have h1 := (digL_len o.Key.toNat).2
  have h2 := (digL_len o.Value.toNat).2
  have hw := wordL_len o.Kind
  unfold encOp
  split
  · simp only [List.length_append, List.length_cons, List.length_nil]; omega
  · simp only [List.length_append, List.length_cons, List.length_nil]; omega
theorem wordL_isB (k : Int) : isB (wordL k) := by
  unfold wordL isB
  repeat' split
  all_goals intro b hb; simp at hb; omega
theorem encOp_isB (o : S_Op) : isB (encOp o []) := by
  intro b hb
  unfold encOp at hb
  split at hb
  · simp only [List.mem_append, List.mem_cons, List.not_mem_nil, or_false] at hb
    rcases hb with hb | rfl | hb
    · exact wordL_isB _ b hb
    · omega
    · exact digL_isB _ b hb
  · simp only [List.mem_append, List.mem_cons, List.not_mem_nil, or_false] at hb
    rcases hb with hb | rfl | hb | rfl | hb
    · exact wordL_isB _ b hb
    · omega
    · exact digL_isB _ b hb
    · omega
    · exact digL_isB _ b hb
theorem l09Op_eq (o : S_Op) (ho : opOK o = true) : spec_l09Op.f o = some (strOfNums (encOp o [])) := by
  obtain ⟨ok1, ok2, ok3, ok4⟩ := opOK_parts ho
  have h1 := (digL_len o.Key.toNat).2
  have h2 := (digL_len o.Value.toNat).2
  unfold spec_l09Op.f spec_l09Words.f
  simp only [Option.bind_some]
  rw [if_pos (by simp; omega), digits_eq o.Key (by omega) (by omega)]
  simp only [Option.bind_some]
  have hword : ([(⟨#[]⟩ : ByteArray), (⟨#[103, 101, 116]⟩ : ByteArray), (⟨#[112, 117, 116]⟩ : ByteArray), (⟨#[100, 114, 111, 112]⟩ : ByteArray), (⟨#[99, 104, 101, 99, 107]⟩ : ByteArray), (⟨#[97, 100, 100]⟩ : ByteArray), (⟨#[115, 99, 97, 110]⟩ : ByteArray)].getD o.Kind.toNat ByteArray.empty) = strOfNums (wordL o.Kind) := by
    have ho1 : o.Kind = 1 ∨ o.Kind = 2 ∨ o.Kind = 3 ∨ o.Kind = 4 ∨ o.Kind = 5 ∨ o.Kind = 6 := by omega
    rcases ho1 with e | e | e | e | e | e <;> rw [e] <;> rfl
  have h32 : (⟨#[32]⟩ : ByteArray) = strOfNums [32] := rfl
  have hw := wordL_len o.Kind
  rw [hword, h32, ← str_append, ← str_append]
  simp only [strOfNums_size, List.length_append, List.length_cons, List.length_nil]
  rw [if_pos (by omega), if_pos (by omega)]
  by_cases hb : o.Kind = 1 ∨ o.Kind = 3
  · have hu : ((bif (o.Kind != 1) then (some (o.Kind != 3)) else (some false)) : Option Bool) = some false := by
      rcases hb with e | e <;> rw [e] <;> rfl
    simp only [hu, Option.bind_some, cond_false]
    unfold encOp
    rw [if_pos hb]; simp
  · have hu : ((bif (o.Kind != 1) then (some (o.Kind != 3)) else (some false)) : Option Bool) = some true := by
      have a1 : (o.Kind != 1) = true := by simp; omega
      have a3 : (o.Kind != 3) = true := by simp; omega
      rw [a1, a3]; rfl
    simp only [hu, Option.bind_some, cond_true, digits_eq o.Value (by omega) (by omega)]
    rw [if_pos (by simp only [strOfNums_size]; omega), ← str_append, ← str_append]
    rw [if_pos (by simp only [strOfNums_size, List.length_append, List.length_cons, List.length_nil]; omega)]
    unfold encOp
    rw [if_neg hb]; simp

theorem id_laws_toOp (x : S_Op) : laws_toOp.f x = some x := by
  unfold laws_toOp.f
  rfl

theorem within_eq (x lo hi : Int) : impl_within.f x lo hi = some (inB x lo hi) := by
  unfold impl_within.f inB; cases decide (lo ≤ x) <;> rfl

theorem isKey_eq (x : Int) : impl_isKey.f x = some (inB x 1 9999) := by unfold impl_isKey.f; rw [within_eq]; rfl

theorem isBare_eq (x : Int) : impl_isBare.f x = some (x == 1 || x == 3) := by
  unfold impl_isBare.f
  cases x == 1 <;> rfl

theorem isValue_eq (x : Int) : impl_isValue.f x = some (inB x 0 999999) := by unfold impl_isValue.f; rw [within_eq]; rfl

theorem impl_OpOK_eq (o : S_Op) : impl_OpOK.f o = some (opOK o) := by
  unfold impl_OpOK.f impl_isBare.f opOK
  simp only [within_eq, isKey_eq, isValue_eq, Option.bind_some]
  cases inB o.Kind 1 6 <;> cases inB o.Key 1 9999 <;> cases o.Kind == 1 <;> cases o.Kind == 3 <;> cases o.Kind == 6 <;> rfl

theorem decDigits_digL (n : Nat) : (Lib.decDigits n).map (fun b => (b.toNat : Int)) = digL n := by
  induction n using Nat.strongRecOn with
  | ind n ih =>
    rw [Lib.decDigits, digL]
    by_cases h : n < 10
    · rw [dif_pos h, if_pos h]
      have : (UInt8.ofNat (48 + n)).toNat = 48 + n := by rw [UInt8.toNat_ofNat']; omega
      simp only [List.map_cons, List.map_nil, this]; rfl
    · rw [dif_neg h, if_neg h, List.map_append, ih (n / 10) (by omega)]
      have : (UInt8.ofNat (48 + n % 10)).toNat = 48 + n % 10 := by rw [UInt8.toNat_ofNat']; omega
      simp only [List.map_cons, List.map_nil, this]; rfl
theorem itoa_eq (x : Int) (h0 : 0 ≤ x) (h1 : x ≤ 9223372036854775807) : strconv_Itoa.f x = some (strOfNums (digL x.toNat)) := by
  unfold strconv_Itoa.f itoaB Lib.itoa
  rw [if_pos ⟨by omega, h1⟩, if_neg (by omega)]
  congr 1
  apply ba_ext
  rw [bytes_str (digL_isB _)]
  exact decDigits_digL _

theorem opText_eq (o : S_Op) (ho : opOK o = true) : impl_opText.f o = some (strOfNums (encOp o [])) := by
  obtain ⟨ok1, ok2, ok3, ok4⟩ := opOK_parts ho
  have h1 := (digL_len o.Key.toNat).2
  have h2 := (digL_len o.Value.toNat).2
  unfold impl_opText.f impl_opWords.f
  simp only [Option.bind_some]
  rw [if_pos (by simp; omega), itoa_eq o.Key (by omega) (by omega)]
  simp only [Option.bind_some, isBare_eq]
  have hword : ([(⟨#[]⟩ : ByteArray), (⟨#[103, 101, 116]⟩ : ByteArray), (⟨#[112, 117, 116]⟩ : ByteArray), (⟨#[100, 114, 111, 112]⟩ : ByteArray), (⟨#[99, 104, 101, 99, 107]⟩ : ByteArray), (⟨#[97, 100, 100]⟩ : ByteArray), (⟨#[115, 99, 97, 110]⟩ : ByteArray)]).getD o.Kind.toNat ByteArray.empty = strOfNums (wordL o.Kind) := by
    have ho1 : o.Kind = 1 ∨ o.Kind = 2 ∨ o.Kind = 3 ∨ o.Kind = 4 ∨ o.Kind = 5 ∨ o.Kind = 6 := by omega
    rcases ho1 with e | e | e | e | e | e <;> rw [e] <;> rfl
  have h32 : (⟨#[32]⟩ : ByteArray) = strOfNums [32] := rfl
  have hw := wordL_len o.Kind
  rw [hword, h32, ← str_append, ← str_append]
  simp only [strOfNums_size, List.length_append, List.length_cons, List.length_nil]
  rw [if_pos (by omega), if_pos (by omega)]
  by_cases hb : o.Kind = 1 ∨ o.Kind = 3
  · have hu : (o.Kind == 1 || o.Kind == 3) = true := by simpa using hb
    simp only [hu, cond_true]
    unfold encOp
    rw [if_pos hb]; simp
  · have hu : (o.Kind == 1 || o.Kind == 3) = false := by simpa using hb
    simp only [hu, cond_false, itoa_eq o.Value (by omega) (by omega), Option.bind_some]
    rw [if_pos (by omega), ← str_append, ← str_append]
    simp only [strOfNums_size, List.length_append, List.length_cons, List.length_nil]
    rw [if_pos (by omega)]
    unfold encOp
    rw [if_neg hb]; simp

end Go.Proofs.YteablpohefcohaaDoor
