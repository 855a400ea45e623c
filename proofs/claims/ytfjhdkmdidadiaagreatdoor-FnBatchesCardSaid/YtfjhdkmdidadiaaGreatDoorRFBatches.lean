/- FnBatches: for every input the law returns true, and its arguments read as before. No conditions but the row's own. -/
import Derived.Test.YtfjhdkmdidadiaaGreatDoorPFBatches
import Derived.Test.YtfjhdkmdidadiaaGreatDoorCards
import Derived.Test.YtfjhdkmdidadiaaGreatDoorTie
import Derived.OpenShut
import Derived.Deep.DeepHandedRow
namespace Go.Proofs.YtfjhdkmdidadiaaGreatDoor.RFBatches
open Go Go.Z Go.Proofs Go.MuLone Go.ChangeShapes Go.WideShapes Go.ChangeAt Go.RowKit
set_option linter.unusedVariables false
set_option linter.unusedSimpArgs false
/-! A batch's text is read back. -/
noncomputable instance : DecidableEq S_Op := fun _ _ => Classical.propDecidable _
noncomputable instance : DecidableEq S_Txn := fun _ _ => Classical.propDecidable _
theorem opEq_iff (x y : S_Op) : ((x.Kind == y.Kind) && ((x.Key == y.Key) && ((x.Value == y.Value) && true))) = decide (x = y) := by
  obtain ⟨a, b, c⟩ := x
  obtain ⟨d, e, f⟩ := y
  by_cases h1 : a = d
  · by_cases h2 : b = e
    · by_cases h3 : c = f
      · simp [h1, h2, h3]
      · simp [h3]
    · simp [h2]
  · simp [h1]
theorem txnEq_iff (x y : S_Txn) : decide (x.Ops = y.Ops) = decide (x = y) := by
  obtain ⟨a⟩ := x
  obtain ⟨b⟩ := y
  by_cases h : a = b
  · simp [h]
  · simp [h]
theorem sameL_iff2 {α : Type} [DecidableEq α] (z : α) (eq : α → α → Bool) (he : ∀ x y, eq x y = decide (x = y)) (a b : List α) : sameL z eq a b = decide (a = b) := by
  unfold sameL
  by_cases h : a.length = b.length
  · rw [show ((a.length : Int) == (b.length : Int)) = true from by simp [h], Bool.true_and]
    have : (fun k => eq (a.getD k z) (b.getD k z)) = (fun k => decide (a.getD k z = b.getD k z)) := by funext k; exact he _ _
    rw [this, all_eq_lists a b z h]
  · rw [show ((a.length : Int) == (b.length : Int)) = false from by simp; omega]
    rw [decide_eq_false (fun e => h (by rw [e]))]; rfl
theorem encB_isB (L : List S_Txn) : isB (encB L) := by
  have hj : ∀ (sep : List Int) (l : List (List Int)), isB sep → (∀ a ∈ l, isB a) → isB (joinL sep l) := by
    intro sep l hs
    induction l with
    | nil => intro _ b hb; simp [joinL] at hb
    | cons x r ih =>
      intro hl
      have ih' := ih (fun a ha => hl a (by simp [ha]))
      cases r with
      | nil => exact hl x (by simp)
      | cons y q =>
        intro b hb
        simp only [joinL, List.mem_append] at hb
        rcases hb with hb | hb | hb
        · exact hl x (by simp) b hb
        · exact hs b hb
        · exact ih' b hb
  rw [encB_join]
  refine hj _ _ (fun b hb => by simp at hb; omega) (fun a ha => ?_)
  obtain ⟨t, _, rfl⟩ := List.mem_map.1 ha
  rw [encOps_join]
  refine hj _ _ (fun b hb => by simp at hb; omega) (fun a ha => ?_)
  obtain ⟨o, _, rfl⟩ := List.mem_map.1 ha
  exact encOp_isB o
theorem digL_le : ∀ (k n : Nat), n < 10 ^ (k + 1) → (digL n).length ≤ k + 1
  | 0, n, h => by
    rw [digL, if_pos (by simpa using h)]; simp
  | k + 1, n, h => by
    rw [digL]
    by_cases c : n < 10
    · rw [if_pos c]; simp
    · rw [if_neg c, List.length_append]
      have : n / 10 < 10 ^ (k + 1) := by rw [Nat.div_lt_iff_lt_mul (by omega)]; rw [Nat.pow_succ] at h; exact h
      have := digL_le k (n / 10) this
      simp only [List.length_cons, List.length_nil]; omega
theorem no32_dig (n : Nat) : ∀ x ∈ digL n, x ≠ 32 ∧ x ≠ 59 ∧ x ≠ 124 := fun x hx => by
  have := digL_dg n x hx; unfold isDg at this; omega
theorem no32_word (k : Int) : ∀ x ∈ wordL k, x ≠ 32 ∧ x ≠ 59 ∧ x ≠ 124 := by
  unfold wordL
  intro x hx
  (repeat' split at hx) <;> simp only [List.mem_cons, List.not_mem_nil, or_false] at hx <;> omega
theorem word_ne (k : Int) : wordL k ≠ [] := by
  unfold wordL
  repeat' split
  all_goals simp
theorem dig_ne (n : Nat) : digL n ≠ [] := fun e => by have := (digL_len n).1; rw [e] at this; simp at this
theorem encOp_words (o : S_Op) : wordsL (encOp o []) = wordL o.Kind :: digL o.Key.toNat :: (if o.Kind = 1 ∨ o.Kind = 3 then [] else [digL o.Value.toNat]) := by
  unfold encOp
  rw [wordsL_word _ _ (fun x hx => (no32_word _ x hx).1), if_neg (word_ne _)]
  split
  · rw [List.append_nil, wordsL_last _ (fun x hx => (no32_dig _ x hx).1), if_neg (dig_ne _)]; rfl
  · rw [List.append_nil, wordsL_word _ _ (fun x hx => (no32_dig _ x hx).1), if_neg (dig_ne _), wordsL_last _ (fun x hx => (no32_dig _ x hx).1), if_neg (dig_ne _)]; rfl
theorem encOp_no {o : S_Op} (d : Int) (hd : d = 59 ∨ d = 124) : ∀ x ∈ encOp o [], x ≠ d := by
  intro x hx
  unfold encOp at hx
  have h1 := no32_word o.Kind x
  have h2 := no32_dig o.Key.toNat x
  have h3 := no32_dig o.Value.toNat x
  split at hx
  · simp only [List.mem_append, List.mem_cons, List.not_mem_nil, or_false] at hx
    rcases hx with hx | hx | hx
    · have := h1 hx; omega
    · omega
    · have := h2 hx; omega
  · simp only [List.mem_append, List.mem_cons, List.not_mem_nil, or_false] at hx
    rcases hx with hx | hx | hx | hx | hx
    · have := h1 hx; omega
    · omega
    · have := h2 hx; omega
    · omega
    · have := h3 hx; omega
theorem encOp_short {o : S_Op} (ho : opOK o = true) : (encOp o []).length ≤ 20 := by
  obtain ⟨ok1, ok2, ok3, ok4⟩ := opOK_parts ho
  have h1 := digL_le 3 o.Key.toNat (by omega)
  have h2 := digL_le 5 o.Value.toNat (by omega)
  have hw := wordL_len o.Kind
  unfold encOp
  split
  · simp only [List.length_append, List.length_cons, List.length_nil]; omega
  · simp only [List.length_append, List.length_cons, List.length_nil]; omega
/-- Blanks before and behind do not count. -/
def blank (l : List Int) : Prop := ∀ x ∈ l, x = 32
theorem sp_ne (l : List Int) : sp l ≠ [] := by
  cases l with
  | nil => simp [sp]
  | cons c r =>
    rw [sp]
    split
    · simp
    · split <;> simp
theorem words_pre (l : List Int) : ∀ pre : List Int, blank pre → wordsL (pre ++ l) = wordsL l
  | [], _ => rfl
  | c :: r, h => by
    have hc := h c (List.mem_cons_self ..)
    subst hc
    have ih := words_pre l r (fun x hx => h x (List.mem_cons_of_mem _ hx))
    rw [← ih]
    unfold wordsL
    rw [List.cons_append, sp, if_pos rfl]; rfl
theorem sp_snoc (l : List Int) : wordsL (l ++ [32]) = wordsL l := by
  have key : ∀ l : List Int, sp (l ++ [32]) = sp l ++ [[]] := by
    intro l
    induction l with
    | nil => rfl
    | cons c r ih =>
      rw [List.cons_append, sp, sp, ih]
      split
      · rfl
      · cases h : sp r with
        | nil => exact absurd h (sp_ne r)
        | cons a b => rfl
  unfold wordsL
  rw [key, List.filter_append]
  simp
theorem words_post (l : List Int) : ∀ post : List Int, blank post → wordsL (l ++ post) = wordsL l
  | [], _ => by rw [List.append_nil]
  | c :: r, h => by
    have hc := h c (List.mem_cons_self ..)
    subst hc
    have ih := words_post (l ++ [32]) r (fun x hx => h x (List.mem_cons_of_mem _ hx))
    rw [List.append_assoc] at ih
    exact ih.trans (sp_snoc l)
/-- What is joined is cut at its signs. -/
theorem cut_join {β : Type} (d : Int) (hd : d ≠ 32) (φ ψ : List Int → β) (sa sb : List Int) (ha : blank sa) (hb : blank sb) : ∀ (ts : List (List Int)), ts ≠ [] → (∀ t ∈ ts, (∀ x ∈ t, x ≠ d) ∧ ∀ pre post, blank pre → blank post → φ (pre ++ t ++ post) = ψ t) → ∀ pre post, blank pre → blank post → (spc d (pre ++ joinL (sa ++ d :: sb) ts ++ post)).map φ = ts.map ψ
  | [], h, _, _, _, _, _ => absurd rfl h
  | [t], _, ht, pre, post, hp, hq => by
    have h := ht t (List.mem_cons_self ..)
    have hno : ∀ x ∈ pre ++ t ++ post, x ≠ d := fun x hx => by
      rcases List.mem_append.1 hx with hx | hx
      · rcases List.mem_append.1 hx with hx | hx
        · rw [hp x hx]; exact fun e => hd e.symm
        · exact h.1 x hx
      · rw [hq x hx]; exact fun e => hd e.symm
    show (spc d (pre ++ t ++ post)).map φ = _
    rw [spc_last d _ hno]
    simp only [List.map_cons, List.map_nil, h.2 pre post hp hq]
  | t :: u :: r, _, ht, pre, post, hp, hq => by
    have h := ht t (List.mem_cons_self ..)
    have ih := cut_join d hd φ ψ sa sb ha hb (u :: r) (by simp) (fun v hv => ht v (List.mem_cons_of_mem _ hv)) sb post hb hq
    have hno : ∀ x ∈ pre ++ t ++ sa, x ≠ d := fun x hx => by
      rcases List.mem_append.1 hx with hx | hx
      · rcases List.mem_append.1 hx with hx | hx
        · rw [hp x hx]; exact fun e => hd e.symm
        · exact h.1 x hx
      · rw [ha x hx]; exact fun e => hd e.symm
    have e : pre ++ joinL (sa ++ d :: sb) (t :: u :: r) ++ post = (pre ++ t ++ sa) ++ d :: (sb ++ joinL (sa ++ d :: sb) (u :: r) ++ post) := by
      simp only [joinL, List.append_assoc, List.cons_append]
    rw [e, spc_word d _ _ hno, List.map_cons, List.map_cons, h.2 pre sa hp ha, ih]
theorem map_eq_map {α β γ δ : Type} (f : α → γ) (g : β → γ) (F : α → δ) (G : β → δ) : ∀ (l : List α) (m : List β), (∀ a ∈ l, ∀ b ∈ m, f a = g b → F a = G b) → l.map f = m.map g → l.map F = m.map G
  | [], [], _, _ => rfl
  | [], _ :: _, _, h => by cases h
  | _ :: _, [], _, h => by cases h
  | a :: l, b :: m, hh, h => by
    simp only [List.map_cons, List.cons.injEq] at h ⊢
    exact ⟨hh a (by simp) b (by simp) h.1, map_eq_map f g F G l m (fun x hx y hy => hh x (by simp [hx]) y (by simp [hy])) h.2⟩
theorem of_bytes {w : ByteArray} {l : List Int} (hl : isB l) (h : bytesOf w = l) : w = strOfNums l := ba_ext (by rw [h, bytes_str hl])
theorem rdN_dig (n : Nat) (h : (digL n).length ≤ 18) : rdN (strOfNums (digL n)) = ((n : Int), true) := by
  obtain ⟨v, b, e, h1, _⟩ := readNumber_spec (strOfNums (digL n)) (by rw [strOfNums_size]; omega)
  obtain ⟨a, c⟩ := h1 n rfl h
  unfold rdN; rw [e, a, c]; rfl
def opW : List ByteArray := [(⟨#[]⟩ : ByteArray), (⟨#[103, 101, 116]⟩ : ByteArray), (⟨#[112, 117, 116]⟩ : ByteArray), (⟨#[100, 114, 111, 112]⟩ : ByteArray), (⟨#[99, 104, 101, 99, 107]⟩ : ByteArray), (⟨#[97, 100, 100]⟩ : ByteArray), (⟨#[115, 99, 97, 110]⟩ : ByteArray)]
theorem idx_word (k : Int) (h : 1 ≤ k ∧ k ≤ 6) : idxOf opW ByteArray.empty (fun y => (strOfNums (wordL k)).toList == y.toList) = k := by
  have : k = 1 ∨ k = 2 ∨ k = 3 ∨ k = 4 ∨ k = 5 ∨ k = 6 := by omega
  rcases this with e | e | e | e | e | e <;> subst e <;> decide +kernel
theorem readOp_back (o : S_Op) (ho : opOK o = true) (w : ByteArray) (hw : w.size ≤ 1048576) (h : wordsL (bytesOf w) = wordsL (encOp o [])) : impl_readOp.f w = some (o, true) := by
  obtain ⟨W, e1, m1, h1, h2⟩ := wordsOf_eq w hw
  obtain ⟨ok1, ok2, ok3, ok4⟩ := opOK_parts ho
  have l1 := digL_le 3 o.Key.toNat (by omega)
  have l2 := digL_le 5 o.Value.toNat (by omega)
  rw [h, encOp_words] at m1
  have hW : W = strOfNums (wordL o.Kind) :: strOfNums (digL o.Key.toNat) :: (if o.Kind = 1 ∨ o.Kind = 3 then [] else [strOfNums (digL o.Value.toNat)]) := by
    cases W with
    | nil => cases m1
    | cons a W =>
      cases W with
      | nil => simp at m1
      | cons b W =>
        simp only [List.map_cons, List.cons.injEq] at m1
        rw [of_bytes (wordL_isB _) m1.1, of_bytes (digL_isB _) m1.2.1]
        congr 2
        have h3 := m1.2.2
        split at h3
        · rename_i hb; rw [if_pos hb]; exact List.map_eq_nil_iff.1 h3
        · rename_i hb
          rw [if_neg hb]
          cases W with
          | nil => cases h3
          | cons c W =>
            simp only [List.map_cons, List.cons.injEq, List.map_eq_nil_iff] at h3
            rw [of_bytes (digL_isB _) h3.1, h3.2]
  have eo : impl_opWords.f = some opW := rfl
  have hix : slices_Index_string_string.f opW (strOfNums (wordL o.Kind)) = some o.Kind := by rw [index_str _ _ (by decide), idx_word _ ok1]
  have z0 : (0 : Int).toNat = 0 := rfl
  have z1 : (1 : Int).toNat = 1 := rfl
  have hr := readNumbers_eq (W.drop 1) (by rw [List.length_drop]; omega) (fun w hw => h2 w (List.mem_of_mem_drop hw))
  have k1 := rdN_dig o.Key.toNat (by omega)
  have k2 := rdN_dig o.Value.toNat (by omega)
  have n1 : ((o.Key.toNat : Nat) : Int) = o.Key := by omega
  have n2 : ((o.Value.toNat : Nat) : Int) = o.Value := by omega
  unfold impl_readOp.f
  simp only [e1, Option.bind_some]
  rw [show ((W.length : Int) == 0) = false by rw [hW]; rw [beq_eq_false_iff_ne]; simp only [List.length_cons]; omega]
  have hlen : 2 ≤ W.length := by rw [hW]; simp only [List.length_cons]; omega
  have hg : W.getD 0 ByteArray.empty = strOfNums (wordL o.Kind) := by rw [hW]; rfl
  simp only [cond_false, if_pos (show (0 : Int) ≤ (1 : Int) ∧ (1 : Int) ≤ (W.length : Int) by omega), if_pos (show (0 : Int) ≤ (0 : Int) ∧ (0 : Int) < (W.length : Int) by omega), z0, z1, hr, eo, Option.bind_some, hg, hix, isBare_eq, impl_OpOK_eq]
  clear m1
  obtain ⟨ok, oy, ov⟩ := o
  simp only at ok1 ok2 ok3 ok4 hW k1 k2 n1 n2 ⊢
  rw [decide_eq_false (show ¬ ok < 1 by omega)]
  by_cases hb : ok = 1 ∨ ok = 3
  · rw [if_pos hb] at hW
    have hv := ok4 hb
    subst hv
    have hbb : (ok == 1 || ok == 3) = true := by simpa using hb
    have hd : W.drop 1 = [strOfNums (digL oy.toNat)] := by rw [hW]; rfl
    rw [hd]
    simp [k1, n1, hbb, ho]
  · rw [if_neg hb] at hW
    have hbb : (ok == 1 || ok == 3) = false := by simpa using hb
    have hd : W.drop 1 = [strOfNums (digL oy.toNat), strOfNums (digL ov.toNat)] := by rw [hW]; rfl
    rw [hd]
    simp [k1, k2, n1, n2, hbb, ho]
theorem readOp_empty (w : ByteArray) (hw : w.size ≤ 1048576) (h : wordsL (bytesOf w) = []) : impl_readOp.f w = some (⟨0, 0, 0⟩, false) := by
  obtain ⟨W, e1, m1, h1, h2⟩ := wordsOf_eq w hw
  rw [h] at m1
  have : W = [] := List.map_eq_nil_iff.1 m1
  subst this
  unfold impl_readOp.f
  simp only [e1, Option.bind_some]; rfl
theorem readOp_tot (w : ByteArray) (hw : w.size ≤ 1048576) : ∃ r, impl_readOp.f w = some r := by
  obtain ⟨W, e1, m1, h1, h2⟩ := wordsOf_eq w hw
  have eo : impl_opWords.f = some opW := rfl
  have z0 : (0 : Int).toNat = 0 := rfl
  have z1 : (1 : Int).toNat = 1 := rfl
  have hr := readNumbers_eq (W.drop 1) (by rw [List.length_drop]; omega) (fun w hw => h2 w (List.mem_of_mem_drop hw))
  unfold impl_readOp.f
  simp only [e1, Option.bind_some]
  by_cases c0 : W.length = 0
  · rw [c0]; exact ⟨_, rfl⟩
  have hix := index_str opW (W.getD 0 ByteArray.empty) (by decide)
  rw [show ((W.length : Int) == 0) = false by rw [beq_eq_false_iff_ne]; omega]
  simp only [cond_false, if_pos (show (0 : Int) ≤ (1 : Int) ∧ (1 : Int) ≤ (W.length : Int) by omega), if_pos (show (0 : Int) ≤ (0 : Int) ∧ (0 : Int) < (W.length : Int) by omega), z0, z1, hr, eo, hix, Option.bind_some, isBare_eq, impl_OpOK_eq]
  generalize idxOf opW ByteArray.empty (fun y => (W.getD 0 ByteArray.empty).toList == y.toList) = k
  generalize (bif (W.drop 1).all fun w => (rdN w).2 then ((W.drop 1).map fun w => (rdN w).1, true) else ([], false)) = p
  have fin : ∀ q : S_Op, ∃ r : S_Op × Bool, (bif (!opOK q) then (some ((⟨0, 0, 0⟩ : S_Op), false)) else (some (q, true))) = some r := fun q => by
    cases opOK q <;> exact ⟨_, rfl⟩
  cases p.2
  · exact ⟨_, rfl⟩
  cases decide (k < 1)
  rotate_left
  · exact ⟨_, rfl⟩
  simp only [Bool.not_true, cond_false, Option.bind_some]
  by_cases l1 : p.1.length = 1
  · rw [l1]
    cases k == 1 || k == 3
    · exact fin _
    · exact fin _
  · rw [show ((p.1.length : Int) == 1) = false by rw [beq_eq_false_iff_ne]; omega]
    by_cases l2 : p.1.length = 2
    · rw [l2]
      cases k == 1 || k == 3
      · exact fin _
      · exact fin _
    · rw [show ((p.1.length : Int) == 2) = false by rw [beq_eq_false_iff_ne]; omega]
      exact fin _
noncomputable def rdO (w : ByteArray) : S_Op × Bool := (impl_readOp.f w).getD (⟨0, 0, 0⟩, false)
theorem rdO_eq {w : ByteArray} (h : w.size ≤ 1048576) : True ∧ impl_readOp.f w = some (rdO w) := by
  obtain ⟨r, e⟩ := readOp_tot w h
  have e2 : rdO w = r := by unfold rdO; rw [e]; rfl
  rw [e2]; exact ⟨trivial, e⟩
noncomputable def cutB (c : UInt8) (x : ByteArray) : List ByteArray := (strings_Split.f x (⟨#[c]⟩ : ByteArray)).getD []
theorem cutB_eq (c : UInt8) (x : ByteArray) (hx : x.size ≤ 1048576) : strings_Split.f x (⟨#[c]⟩ : ByteArray) = some (cutB c x) ∧ True ∧ (cutB c x).map bytesOf = spc (c.toNat : Int) (bytesOf x) ∧ (cutB c x).length ≤ 1048577 ∧ ∀ w ∈ cutB c x, w.size ≤ 1048576 := by
  obtain ⟨l, e1, h⟩ := split_eqc c x hx
  have e : cutB c x = l := by unfold cutB; rw [e1]; rfl
  rw [e]; exact ⟨e1, trivial, h⟩
noncomputable def rdT (w : ByteArray) : S_Txn × Bool := (⟨(cutB 59 w).map (fun v => (rdO v).1)⟩, (cutB 59 w).all (fun v => (rdO v).2))
theorem ops_impl (l : List ByteArray) (hl : l.length ≤ 1048577) (h : ∀ w ∈ l, w.size ≤ 1048576) : loopO (fun s : Int × List S_Op => impl_readBatch.s1 l s.1 s.2) (0, []) = some (bif l.all (fun w => (rdO w).2) then .out (l.map (fun w => (rdO w).1)) else .ret (([] : List S_Txn), false)) := by
  refine collect l rdO (([] : List S_Txn), false) (fun k u => ((k : Int), u)) (fun s => s.1.toNat) (fun _ _ => rfl) (fun s : Int × List S_Op => impl_readBatch.s1 l s.1 s.2) (fun k hk u hu => ?_) (fun u => ?_)
  · simp only [impl_readBatch.s1, decide_eq_true (show (k : Int) < (l.length : Int) by omega), cond_true, if_pos (show (0 : Int) ≤ (k : Int) ∧ (k : Int) < (l.length : Int) by omega), Int.toNat_natCast, (rdO_eq (h _ (getD_mem hk ByteArray.empty))).2, Option.bind_some]
    rw [if_pos (by simp only [List.length_cons, List.length_nil]; omega), w64_id (by omega) (by omega)]
    cases (rdO (l.getD k ByteArray.empty)).2 <;> rfl
  · simp only [impl_readBatch.s1]
    rw [decide_eq_false (by omega)]; rfl
noncomputable def rdBatch (x : ByteArray) : List S_Txn × Bool := bif (cutB 124 x).all (fun w => (rdT w).2) && batchOK ((cutB 124 x).map (fun w => (rdT w).1)) then ((cutB 124 x).map (fun w => (rdT w).1), true) else ([], false)
theorem readBatch_impl (x : ByteArray) (hx : x.size ≤ 1048576) : impl_readBatch.f x = some (rdBatch x) := by
  obtain ⟨e1, e2, _, hlen, hsz⟩ := cutB_eq 124 x hx
  have hok : (cutB 124 x).length ≤ 1048577 ∧ ∀ y ∈ (cutB 124 x).map (fun w => (rdT w).1), y.Ops.length ≤ 1073741824 := ⟨hlen, fun y hy => by
    obtain ⟨w, hw, rfl⟩ := List.mem_map.1 hy
    have := (cutB_eq 59 w (hsz w hw)).2.2.2.1
    unfold rdT; simp only [List.length_map]; omega⟩
  have hB : ((cutB 124 x).map (fun w => (rdT w).1)).length ≤ 1073741824 := by rw [List.length_map]; omega
  have e1 : strings_Split.f x (⟨#[124]⟩ : ByteArray) = some (cutB 124 x) := e1
  unfold impl_readBatch.f rdBatch
  have h := collect (cutB 124 x) rdT (([] : List S_Txn), false) (fun k u => (u, (k : Int))) (fun s => s.2.toNat) (fun _ _ => rfl) (fun s : List S_Txn × Int => impl_readBatch.s0 (cutB 124 x) s.1 s.2) (fun k hk u hu => by
    obtain ⟨g1, g2, _, g3, g4⟩ := cutB_eq 59 _ (hsz _ (getD_mem hk ByteArray.empty))
    have g1 : strings_Split.f ((cutB 124 x).getD k ByteArray.empty) (⟨#[59]⟩ : ByteArray) = _ := g1
    simp only [impl_readBatch.s0, decide_eq_true (show (k : Int) < ((cutB 124 x).length : Int) by omega), cond_true, if_pos (show (0 : Int) ≤ (k : Int) ∧ (k : Int) < ((cutB 124 x).length : Int) by omega), Int.toNat_natCast, g1, Option.bind_some, ops_impl _ g3 g4]
    have : rdT ((cutB 124 x).getD k ByteArray.empty) = (⟨(cutB 59 ((cutB 124 x).getD k ByteArray.empty)).map (fun v => (rdO v).1)⟩, (cutB 59 ((cutB 124 x).getD k ByteArray.empty)).all (fun v => (rdO v).2)) := rfl
    rw [this, w64_id (by omega) (by omega)]
    cases (cutB 59 ((cutB 124 x).getD k ByteArray.empty)).all (fun v => (rdO v).2)
    · rfl
    · simp only [cond_true]
      rw [if_pos (by simp only [List.length_cons, List.length_nil]; omega)]; rfl) (fun u => by
    simp only [impl_readBatch.s0]
    rw [decide_eq_false (by omega)]; rfl)
  simp only [e1, Option.bind_some]
  have h : loopO (fun s : List S_Txn × Int => impl_readBatch.s0 (cutB 124 x) s.1 s.2) (([] : List S_Txn), 0) = _ := h
  rw [h]
  cases (cutB 124 x).all (fun w => (rdT w).2)
  · rfl
  · simp only [cond_true, Option.bind_some, impl_BatchOK_eq _ ⟨hB, hok.2⟩, Bool.true_and]
    cases batchOK ((cutB 124 x).map (fun w => (rdT w).1)) <;> rfl

theorem pairs_all {α β : Type} (l : List α) (p : α → β × Bool) (m : List β) (h : l.map p = m.map (fun b => (b, true))) : l.all (fun a => (p a).2) = true ∧ l.map (fun a => (p a).1) = m := by
  constructor
  · rw [List.all_eq_true]
    intro a ha
    have : p a ∈ m.map (fun b => (b, true)) := by rw [← h]; exact List.mem_map.2 ⟨a, ha, rfl⟩
    obtain ⟨b, _, e⟩ := List.mem_map.1 this
    rw [← e]
  · have := congrArg (List.map Prod.fst) h
    rw [List.map_map, List.map_map] at this
    have e : m.map (Prod.fst ∘ fun b => (b, true)) = m := List.map_id'' (fun _ => rfl) m
    rw [e] at this
    exact this
theorem rdT_back (t : S_Txn) (ht : ∀ o ∈ t.Ops, opOK o = true) (w : ByteArray) (hw : w.size ≤ 1048576) (h : (spc 59 (bytesOf w)).map wordsL = t.Ops.map (fun o => wordsL (encOp o []))) : rdT w = (t, true) := by
  obtain ⟨_, _, m, _, hs⟩ := cutB_eq 59 w hw
  have m : (cutB 59 w).map bytesOf = spc 59 (bytesOf w) := m
  rw [← m, List.map_map] at h
  have h2 := map_eq_map (wordsL ∘ bytesOf) (fun o => wordsL (encOp o [])) rdO (fun o => (o, true)) (cutB 59 w) t.Ops (fun a ha o ho e => by
    have := readOp_back o (ht o ho) a (hs a ha) e
    unfold rdO; rw [this]; rfl) h
  obtain ⟨a, b⟩ := pairs_all _ _ _ h2
  unfold rdT
  rw [a, b]
theorem encB_cut (L : List S_Txn) (h : batchOK L = true) : (spc 124 (encB L)).map (fun p => (spc 59 p).map wordsL) = L.map (fun t => t.Ops.map (fun o => wordsL (encOp o []))) := by
  obtain ⟨n1, n2, hT⟩ := batchOK_parts h
  have hb1 : blank [32] := fun x hx => by simpa using hx
  have hb0 : blank [] := fun x hx => by simp at hx
  have inner : ∀ t ∈ L, ∀ pre post, blank pre → blank post → (spc 59 (pre ++ encOps t.Ops [] ++ post)).map wordsL = t.Ops.map (fun o => wordsL (encOp o [])) := fun t ht pre post hp hq => by
    obtain ⟨t1, t2, t3, t4⟩ := hT t ht
    rw [encOps_join]
    have := cut_join 59 (by decide) wordsL wordsL [] [32] hb0 hb1 (t.Ops.map fun o => encOp o []) (fun e => by have := congrArg List.length e; simp only [List.length_map, List.length_nil] at this; omega) (fun a ha => by
      obtain ⟨o, ho, rfl⟩ := List.mem_map.1 ha
      exact ⟨encOp_no 59 (.inl rfl), fun pre post hp hq => by rw [words_post _ _ hq, words_pre _ _ hp]⟩) pre post hp hq
    rw [List.map_map] at this
    exact this
  have no124 : ∀ t ∈ L, ∀ x ∈ encOps t.Ops [], x ≠ 124 := fun t ht => by
    rw [encOps_join]
    have : ∀ l : List (List Int), (∀ a ∈ l, ∀ x ∈ a, x ≠ 124) → ∀ x ∈ joinL [59, 32] l, x ≠ 124 := by
      intro l
      induction l with
      | nil => intro _ x hx; simp [joinL] at hx
      | cons a r ih =>
        intro hl
        cases r with
        | nil => exact hl a (by simp)
        | cons b q =>
          intro x hx
          simp only [joinL, List.mem_append] at hx
          rcases hx with hx | hx | hx
          · exact hl a (by simp) x hx
          · simp at hx; omega
          · exact ih (fun c hc => hl c (by simp [hc])) x hx
    refine this _ (fun a ha => ?_)
    obtain ⟨o, ho, rfl⟩ := List.mem_map.1 ha
    exact encOp_no 124 (.inr rfl)
  rw [encB_join]
  have := cut_join 124 (by decide) (fun p => (spc 59 p).map wordsL) (fun p => (spc 59 p).map wordsL) [32] [32] hb1 hb1 (L.map fun t => encOps t.Ops []) (fun e => by have := congrArg List.length e; simp only [List.length_map, List.length_nil] at this; omega) (fun a ha => by
    obtain ⟨t, ht, rfl⟩ := List.mem_map.1 ha
    refine ⟨no124 t ht, fun pre post hp hq => ?_⟩
    have e0 := inner t ht [] [] hb0 hb0
    rw [List.nil_append, List.append_nil] at e0
    simp only [inner t ht pre post hp hq, e0]) [] [] hb0 hb0
  rw [List.nil_append, List.append_nil, List.map_map] at this
  refine Eq.trans this (List.map_congr_left fun t ht => ?_)
  have e0 := inner t ht [] [] hb0 hb0
  rw [List.nil_append, List.append_nil] at e0
  exact e0
theorem encB_short (L : List S_Txn) (h : batchOK L = true) : (encB L).length ≤ 1000 := by
  obtain ⟨n1, n2, hT⟩ := batchOK_parts h
  have hj : ∀ (sep : List Int) (B : Nat) (l : List (List Int)), (∀ a ∈ l, a.length ≤ B) → (joinL sep l).length ≤ l.length * (B + sep.length) := by
    intro sep B l
    induction l with
    | nil => intro _; simp [joinL]
    | cons x r ih =>
      intro hl
      have hx := hl x (by simp)
      have ih' := ih (fun a ha => hl a (by simp [ha]))
      cases r with
      | nil => simp only [joinL, List.length_cons, List.length_nil]; omega
      | cons y q =>
        simp only [joinL, List.length_append, List.length_cons, Nat.add_mul, Nat.one_mul] at ih' ⊢
        omega
  have h1 : ∀ a ∈ L.map fun t => encOps t.Ops [], a.length ≤ 100 := fun a ha => by
    obtain ⟨t, ht, rfl⟩ := List.mem_map.1 ha
    obtain ⟨t1, t2, t3, t4⟩ := hT t ht
    show (encOps t.Ops []).length ≤ 100
    rw [encOps_join]
    have := hj [59, 32] 20 (t.Ops.map fun o => encOp o []) (fun a ha => by
      obtain ⟨o, ho, rfl⟩ := List.mem_map.1 ha
      exact encOp_short (List.all_eq_true.1 t4 o ho))
    rw [List.length_map] at this
    have h4 : t.Ops.length * (20 + [(59 : Int), 32].length) ≤ 4 * 22 := Nat.mul_le_mul_right 22 t3
    omega
  rw [encB_join]
  have := hj [32, 124, 32] 100 _ h1
  rw [List.length_map] at this
  have h4 : L.length * (100 + [(32 : Int), 124, 32].length) ≤ 2 * 103 := Nat.mul_le_mul_right 103 n2
  omega
theorem rdBatch_back (L : List S_Txn) (h : batchOK L = true) : rdBatch (strOfNums (encB L)) = (L, true) := by
  have hs := encB_short L h
  have hz : (strOfNums (encB L)).size ≤ 1048576 := by rw [strOfNums_size]; omega
  obtain ⟨n1, n2, hT⟩ := batchOK_parts h
  obtain ⟨_, _, m, _, hw⟩ := cutB_eq 124 _ hz
  have m : (cutB 124 (strOfNums (encB L))).map bytesOf = spc 124 (bytesOf (strOfNums (encB L))) := m
  rw [bytes_str (encB_isB L)] at m
  have hc := encB_cut L h
  rw [← m, List.map_map] at hc
  have h2 := map_eq_map _ _ rdT (fun t => (t, true)) _ L (fun a ha t ht e => rdT_back t (fun o ho => List.all_eq_true.1 (hT t ht).2.2.2 o ho) a (hw a ha) e) hc
  obtain ⟨a, b⟩ := pairs_all _ _ _ h2
  unfold rdBatch
  rw [a, b, h]; rfl
theorem spc_tail (d : Int) : ∀ l : List Int, ([] : List Int) ∈ spc d (l ++ [d])
  | [] => by simp [spc]
  | c :: r => by
    have ih := spc_tail d r
    rw [List.cons_append, spc]
    split
    · exact List.mem_cons_self ..
    · split
      · rename_i e; rw [e] at ih; cases ih
      · rename_i w ws e
        rw [e] at ih
        rcases List.mem_cons.1 ih with h | h
        · subst h
          cases r with
          | nil =>
            rw [List.nil_append, spc, if_pos rfl] at e
            injection e with e1 e2
            subst e2
            exact List.mem_cons_of_mem _ (List.mem_cons_self ..)
          | cons x y =>
            have : ([] : List Int) ∈ ws := by
              have h3 := spc_tail d y
              rw [List.cons_append, spc] at e
              split at e
              · injection e with e1 e2; rw [← e2]; exact h3
              · split at e
                · cases e
                · injection e with e1 e2; cases e1
            exact List.mem_cons_of_mem _ this
        · exact List.mem_cons_of_mem _ h
theorem spc_end (d b : Int) (hb : b ≠ d) : ∀ l : List Int, ∃ q : List Int, q ++ [b] ∈ spc d (l ++ [b])
  | [] => ⟨[], by rw [List.nil_append, spc_last d [b] (fun x hx => by simp at hx; rw [hx]; exact hb)]; exact List.mem_cons_self ..⟩
  | c :: r => by
    obtain ⟨q, ih⟩ := spc_end d b hb r
    rw [List.cons_append, spc]
    split
    · exact ⟨q, List.mem_cons_of_mem _ ih⟩
    · split
      · rename_i e; rw [e] at ih; cases ih
      · rename_i w ws e
        rw [e] at ih
        rcases List.mem_cons.1 ih with h | h
        · exact ⟨c :: q, by rw [List.cons_append, h]; exact List.mem_cons_self ..⟩
        · exact ⟨q, List.mem_cons_of_mem _ h⟩
theorem rdBatch_more (x : ByteArray) (hx : x.size ≤ 1048576) (l : List Int) (h : bytesOf x = l ++ [59]) : rdBatch x = ([], false) := by
  obtain ⟨_, _, m, _, hw⟩ := cutB_eq 124 x hx
  have m : (cutB 124 x).map bytesOf = spc 124 (bytesOf x) := m
  obtain ⟨q, hq⟩ := spc_end 124 59 (by decide) l
  rw [← h, ← m] at hq
  obtain ⟨w, hw1, hw2⟩ := List.mem_map.1 hq
  obtain ⟨_, _, m2, _, hv⟩ := cutB_eq 59 w (hw w hw1)
  have m2 : (cutB 59 w).map bytesOf = spc 59 (bytesOf w) := m2
  have hn := spc_tail 59 q
  rw [← hw2, ← m2] at hn
  obtain ⟨v, hv1, hv2⟩ := List.mem_map.1 hn
  have hr := readOp_empty v (hv v hv1) (by rw [hv2]; rfl)
  have : (rdT w).2 = false := by
    unfold rdT
    exact List.all_eq_false.2 ⟨v, hv1, by unfold rdO; rw [hr]; decide⟩
  have : (cutB 124 x).all (fun w => (rdT w).2) = false := List.all_eq_false.2 ⟨w, hw1, by rw [this]; decide⟩
  unfold rdBatch
  rw [this]; rfl
theorem alike_self (L : List S_Txn) (h : L.length ≤ 1073741824 ∧ ∀ y, y ∈ L → y.Ops.length ≤ 1073741824) : impl_alike.f L L = some true := by
  unfold impl_alike.f
  rw [samef_slices_EqualFunc_impl_Txn_impl_Txn_impl_Txn_impl_Txn L L impl_alike_c1.f (fun x y => decide (x.Ops = y.Ops)) h.1 (fun x y hx hy => by
    unfold impl_alike_c1.f
    rw [same_slices_Equal_impl_Op_impl_Op x.Ops y.Ops (h.2 x hx), sameL_iff2 _ _ (fun a b => opEq_iff a b)]; rfl), sameL_iff2 _ _ (fun a b => txnEq_iff a b)]
  rw [decide_eq_true rfl]; rfl
theorem pure_laws_FnBatches (x0 : List Int) (x1 : List Int) (g0 : (x0.length ≤ maxLen ∧ ∀ y : Int, y ∈ x0 → ((Lit.int .u8 y).wf = true))) (g1 : (x1.length ≤ maxLen ∧ ∀ y : Int, y ∈ x1 → ((Lit.int .u8 y).wf = true))) : laws_FnBatches.f x0 x1 = some true := by
  unfold laws_FnBatches.f
  by_cases c0 : (x0.length : Int) > 1048576
  · rw [decide_eq_true c0]; rfl
  by_cases c1 : (x1.length : Int) > 1048576
  · rw [decide_eq_true c1, decide_eq_false c0]; rfl
  rw [decide_eq_false c0, decide_eq_false c1]
  simp only [cond_false, Option.bind_some]
  obtain ⟨L, eL, hL⟩ := batchOf_some x0 (by omega) (fun b hb => wf_u8 (g0.2 b hb))
  obtain ⟨n1, n2, hT⟩ := batchOK_parts hL
  have q : L.length ≤ 1073741824 ∧ ∀ y, y ∈ L → y.Ops.length ≤ 1073741824 := ⟨by omega, fun y hy => by have := (hT y hy).2.2.1; omega⟩
  have eB : impl_BatchText.f L = some (strOfNums (encB L), 0) := by
    unfold impl_BatchText.f
    rw [decide_eq_false (by omega), impl_BatchOK_eq L q, hL, batchText_eq L hL]; rfl
  have eS : spec_BatchText.f L = some (strOfNums (encB L), 0) := by
    unfold spec_BatchText.f
    rw [decide_eq_false (by omega), spec_BatchOK_eq L q, hL, l09Text_eq L hL]; rfl
  have hs := encB_short L hL
  have eR : impl_ReadBatch.f (strOfNums (encB L)) = some (L, 0) := by
    unfold impl_ReadBatch.f
    have hz : (strOfNums (encB L)).size ≤ 1048576 := by rw [strOfNums_size]; omega
    simp only [areShort1, Option.bind_some, shortT, readBatch_impl _ hz, rdBatch_back L hL, strOfNums_size]
    rw [decide_eq_true (by omega)]; rfl
  have eM : impl_ReadBatch.f (strOfNums (encB L) ++ (⟨#[59]⟩ : ByteArray)) = some ([], 3) := by
    unfold impl_ReadBatch.f
    have e59 : (⟨#[59]⟩ : ByteArray) = strOfNums [59] := rfl
    rw [e59, ← str_append]
    have hz : (strOfNums (encB L ++ [59])).size ≤ 1048576 := by rw [strOfNums_size]; simp; omega
    have hb : bytesOf (strOfNums (encB L ++ [59])) = encB L ++ [59] := bytes_str (fun b hb => by
      rcases List.mem_append.1 hb with hb | hb
      · exact encB_isB L b hb
      · simp at hb; omega)
    simp only [areShort1, Option.bind_some, shortT, readBatch_impl _ hz, rdBatch_more _ hz _ hb, strOfNums_size]
    rw [decide_eq_true (by simp; omega)]; rfl
  have h0 := hT _ (getD_mem (show 0 < L.length by omega) z_Txn)
  have ho : opOK ((L.getD 0 z_Txn).Ops.getD 0 z_Op) = true := List.all_eq_true.1 h0.2.2.2 _ (getD_mem (show 0 < (L.getD 0 z_Txn).Ops.length by omega) z_Op)
  have z0 : (0 : Int).toNat = 0 := rfl
  simp only [eL, eB, eS, eR, eM, Option.bind_some, z0, if_pos (show (0 : Int) ≤ (0 : Int) ∧ (0 : Int) < (L.length : Int) by omega), if_pos (show (0 : Int) ≤ (0 : Int) ∧ (0 : Int) < ((L.getD 0 z_Txn).Ops.length : Int) by omega)]
  generalize (L.getD 0 z_Txn).Ops.getD 0 z_Op = o at ho
  have hos := encOp_short ho
  have eO : impl_OpText.f o = some (strOfNums (encOp o []), 0) := by
    unfold impl_OpText.f
    rw [impl_OpOK_eq, ho, opText_eq o ho]; rfl
  have eQ : impl_ReadOp.f (strOfNums (encOp o [])) = some (o, 0) := by
    unfold impl_ReadOp.f
    have hz : (strOfNums (encOp o [])).size ≤ 1048576 := by rw [strOfNums_size]; omega
    simp only [areShort1, Option.bind_some, shortT, readOp_back o ho _ hz (by rw [bytes_str (encOp_isB o)]), strOfNums_size]
    rw [decide_eq_true (by omega)]; rfl
  have eA : impl_SameBatch.f L L = some true := by
    unfold impl_SameBatch.f
    rw [impl_BatchOK_eq L q, hL, alike_self L q]; rfl
  have e59 : (⟨#[59]⟩ : ByteArray).size = 1 := rfl
  simp only [eO, eQ, eA, Option.bind_some, impl_OpOK_eq, ho, impl_BatchOK_eq L q, hL, beq_self_eq_true, Bool.and_true, cond_true]
  rw [if_pos (by rw [strOfNums_size, e59]; omega)]
theorem cz5 : Tryz.prog.cellsOf 5 = 1 := by kernel_rfl
theorem own : ownKnob Tryz.prog.godebug = none := by kernel_rfl
theorem laidOut : laidOutB Tryz.prog = true := by kernel_rfl
theorem gTab : Tryz.prog.globalNamed "internal/strconv.uint64pow10" = some 1 := by kernel_rfl
theorem gTabType : (Tryz.prog.globals[1]?).map (·.type) = some 117 := by kernel_rfl
theorem gCells : Tryz.prog.cellsOf 117 = 20 := by kernel_rfl
theorem gCell1 : Tryz.prog.cellsOf 110 = 1 := by kernel_rfl
theorem table {W : World} (h : laidMetH Tryz.prog Rows.fnBatchesRow.laid W) : Lib.TabIs Tryz.prog W "internal/strconv.uint64pow10" .u64 Lib.pow10Tab :=
  Lib.tabIs_of_head gTab gTabType Tryz.underlying117 Tryz.underlying110 gCell1 gCells (laidMet.tail (laidMet.tail (show laidMet Tryz.prog Rows.fnBatchesRow.laid W from h)))
def tabCells (d : DataW Unit) : Array Value := match d with | .agg l => (l.map fun x => match x with | .lit (.int k z) => Value.int k z | _ => Value.bool false).toArray | _ => #[]
noncomputable def laidWorld (os : Os) : World := { World.doorLaid Tryz.prog 400 os with heap := ((World.doorLaid Tryz.prog 400 os).heap.modify 2 fun | .cells _ t frozen => .cells (tabCells Rows.laid_unicode_utf8_first) t frozen | o => o) }
theorem rowEs (u : TypeId) (h : Tryz.prog.typeName? 3 u = some "*errors.errorString") : u = 144 :=
  typeName_ptr_named (nm := "errors.errorString") (by rw [show "*" ++ "errors.errorString" = "*errors.errorString" by decide]; kernel_rfl) (by kernel_rfl) (by decide) u (by rw [show "*" ++ "errors.errorString" = "*errors.errorString" by decide]; exact h)
theorem tabR {W : World} (hL : laidMetH Tryz.prog Rows.fnBatchesRow.laid W) (hO : W.ShapedOpen Tryz.prog) : TabR Tryz.prog (heapC W) := by
  obtain ⟨a1, s1, hv1, -, -, -⟩ := laid_sentinel (laidMet.tail (laidMet.tail (laidMet.tail (laidMet.tail (laidMet.tail (show laidMet Tryz.prog Rows.fnBatchesRow.laid W from hL)))))) (g := 4) (by kernel_rfl) (ti := 89) (by kernel_rfl) Tryz.underlying89 rowEs Tryz.underlying144 Tryz.underlying146 rfl rfl Tryz.underlying9 (by kernel_rfl) (by kernel_rfl)
  obtain ⟨a2, s2, hv2, -, -, -⟩ := laid_sentinel (laidMet.tail (laidMet.tail (laidMet.tail (laidMet.tail (show laidMet Tryz.prog Rows.fnBatchesRow.laid W from hL))))) (g := 5) (by kernel_rfl) (ti := 89) (by kernel_rfl) Tryz.underlying89 rowEs Tryz.underlying144 Tryz.underlying146 rfl rfl Tryz.underlying9 (by kernel_rfl) (by kernel_rfl)
  obtain ⟨m, hm⟩ := Go.Proofs.cell_of_shapedOpen_int (g := 0) (zero := #[.int .i64 0]) (t := 3) hO (of_decide_eq_true (by kernel_rfl)) (by kernel_rfl) rfl (by kernel_rfl) (by kernel_rfl) Tryz.underlying3
  obtain ⟨v, hv, hv0⟩ := var_of_cell (P := Tryz.prog) (n := "internal/bytealg.MaxLen") (by kernel_rfl) hm
  exact ⟨tabK_heap (table hL), varK_heap hv ⟨m, hv0⟩, varK_heap hv1 ⟨_, _, rfl⟩, varK_heap hv2 ⟨_, _, rfl⟩⟩
theorem laid_met (os : Os) : laidMet Tryz.prog Rows.fnBatchesRow.laid ((laidWorld os).forCall (fun _ _ => 0) ⟨#[], #[.slice none 0 0, .slice none 0 0], []⟩).memory := laidMet_of_run' 8 (by kernel_rfl) (by kernel_rfl)
theorem reads (os : Os) {H : Type} (enc : TypeId × Value → H) : ∃ places, DataW.whole enc Tryz.prog ((laidWorld os).forCall (fun _ _ => 0) ⟨#[], #[.slice none 0 0, .slice none 0 0], []⟩).memory Tryz.f4.params.toList Rows.fnBatchesSpec.vars false (#[.slice none 0 0, .slice none 0 0] : Array Value).toList 8 = some ([.nil, .nil], [], places) := ⟨[], by kernel_rfl⟩
set_option maxRecDepth 100000 in
set_option maxHeartbeats 4000000 in
theorem lifted (os : Os) (started : os.Started) (H : Type) (enc : TypeId × Value → H) (F : Stop.Interp) :
    ReturnsInHanded {} Tryz.checked os 4 .any ((OpenSpec.ofChange Rows.fnBatchesSpec).preRow enc Tryz.prog Tryz.f4 Rows.fnBatchesRow.domain false Rows.fnBatchesRow.laid) (((OpenSpec.ofChange Rows.fnBatchesSpec).at F).post enc Tryz.prog Tryz.f4 false true false false) := by
  obtain ⟨places, hx⟩ := reads os enc
  refine returnsInHanded_of_row (C := Tryz.checked) (s := OpenSpec.ofChange Rows.fnBatchesSpec) own started (by kernel_rfl) Tryz.func4
    (witness_row_atRef (enc := enc) (C := Tryz.checked) false (laidWorld os) #[.slice none 0 0, .slice none 0 0] rfl (by kernel_rfl) (by kernel_rfl) (by kernel_rfl)
      (OpenSpec.preRow_of_cond 8 hx (by kernel_rfl) (fun k hk => by cases hk) (by kernel_rfl) (laid_met os))) ?_
  intro W base args ds gs before hval0 hW hcnd _ hsz0 hL hO _
  show Calls Tryz.prog 4 args W fun e W' => ∃ v, e = .returned v ∧ Rows.fnBatchesSpec.post enc Tryz.prog Tryz.f4 false true false false W args v W'
  have hval : ∀ (j : Nat) t v, Tryz.f4.params[j]? = some t → args[j]? = some v → Value.okWide Tryz.prog W .any base t v := hval0
  have hW' := hW
  obtain ⟨p, q, hA0, hV, rfl, hfz, hnd⟩ := hW
  have hA : DataW.TrodAll enc Tryz.prog W 0 (fun _ => true) true Tryz.f4.params.toList args.toList ds p := hA0
  rw [Tryz.params4] at hA hval
  obtain ⟨v0, vs0, d0, ds0, p0, q0, hargs, rfl, rfl, h0, r0⟩ := trodAll_cons hA
  obtain ⟨v1, vs1, d1, ds1, p1, q1, rfl, rfl, rfl, h1, r1⟩ := trodAll_cons r0
  obtain ⟨rfl, rfl, rfl⟩ := trodAll_nil r1
  obtain rfl : args = #[v0, v1] := by cases args; simp_all
  obtain ⟨rfl, rfl⟩ := trodVars_none hV
  have k0 := h0
  have lt0 : ∀ x ∈ p0, x.block < W.heap.size := by obtain ⟨m, hm⟩ := k0; exact DataW.trod_lt m _ _ _ hm
  obtain ⟨f0, hf0⟩ := h0
  obtain ⟨y0, hy0, hg0⟩ := (opens_sl Tryz.underlying28 cz5 (by decide) (opens_int Tryz.underlying5)) H enc f0 _ _ hf0
  obtain ⟨A0_, p0_, e0, w0_⟩ : ∃ A p, v0 = Value.slice A y0.length p ∧ View (Lay.int .u8) A p y0 (heapC W) := by
    obtain ⟨A, n, c, rfl⟩ := okWide_slice Tryz.underlying28 (hval 0 28 v0 rfl rfl)
    obtain ⟨v, hv, A, p, rfl, hh⟩ := hy0
    simp only [Value.cells] at hv
    exact ⟨A, p, by simpa using hv, hh⟩
  subst e0
  have k1 := h1
  have lt1 : ∀ x ∈ p1, x.block < W.heap.size := by obtain ⟨m, hm⟩ := k1; exact DataW.trod_lt m _ _ _ hm
  obtain ⟨f1, hf1⟩ := h1
  obtain ⟨y1, hy1, hg1⟩ := (opens_sl Tryz.underlying28 cz5 (by decide) (opens_int Tryz.underlying5)) H enc f1 _ _ hf1
  obtain ⟨A1_, p1_, e1, w1_⟩ : ∃ A p, v1 = Value.slice A y1.length p ∧ View (Lay.int .u8) A p y1 (heapC W) := by
    obtain ⟨A, n, c, rfl⟩ := okWide_slice Tryz.underlying28 (hval 1 28 v1 rfl rfl)
    obtain ⟨v, hv, A, p, rfl, hh⟩ := hy1
    simp only [Value.cells] at hv
    exact ⟨A, p, by simpa using hv, hh⟩
  subst e1
  clear hA0 hval0 hsz0
  refine (laws_FnBatches_t W A0_ p0_ y0 (heapC W) w0_ (heapC_has W) A1_ p1_ y1 (heapC W) w1_ (heapC_has W) (heapC W) (tabR hL hO) (heapC_has W) true (pure_laws_FnBatches y0 y1 hg0 hg1)).mono fun e W' ⟨v, he, hv, hS⟩ => ?_
  subst he; subst hv
  have bel := hS.below
  exact ⟨_, rfl, _, _, _, [], _, [], hW', trodAll_mk1 (shutB Tryz.underlying4 _), (trodAll_cons_mk (Below.trod laidOut (by kernel_rfl) (of_decide_eq_true (by kernel_rfl)) k0 bel lt0) (trodAll_cons_mk (Below.trod laidOut (by kernel_rfl) (of_decide_eq_true (by kernel_rfl)) k1 bel lt1) trodAll_mk0)), rfl, bel.frame _, fun h => by cases h⟩
theorem over : Rows.fnBatchesRow.holds Tryz.pinned (OpenSpec.ofChange Rows.fnBatchesSpec) :=
  OpenClaim.holds_of_cond 4 Tryz.f4 rfl rfl rfl rfl rfl rfl rfl ⟨rfl, rfl, rfl, rfl, rfl⟩ rfl rfl rfl rfl rfl (by kernel_rfl) Tryz.func4 (by kernel_rfl)
    (of_decide_eq_true (by kernel_rfl)) (by unfold Func.isWrapper; first | (rw [if_pos (by decide +kernel)]; kernel_rfl) | (rw [if_neg (by decide +kernel)]; exact ⟨rfl, rfl⟩))
    (fun os started H enc _ F => by rw [OpenClaim.pre_eq_preRow]; exact lifted os started H enc F)
theorem plain (f : FuncId) (fn : Func) (hf : Tryz.pinned.checked.prog.funcNamed "loop.example/g00548/laws.FnBatches" = some f) (hfn : Tryz.pinned.checked.prog.funcs[f]? = some fn) :
    true = Tryz.pinned.checked.prog.looks [] ∧ ∀ (j : Nat) t, fn.params[j]? = some t → Tryz.pinned.checked.prog.wantsStandIn t = false := by
  obtain rfl : f = 4 := Option.some.inj ((show Tryz.prog.funcNamed "loop.example/g00548/laws.FnBatches" = some 4 by kernel_rfl).symm.trans hf) |>.symm
  obtain rfl : fn = Tryz.f4 := (Option.some.inj (Tryz.func4.symm.trans hfn)).symm
  refine ⟨by kernel_rfl, fun j t ht => ?_⟩
  rw [Tryz.params4] at ht
  obtain rfl : t = 28 := by simpa using Array.mem_of_getElem? ht
  exact (show Tryz.prog.wantsStandIn 28 = false by kernel_rfl)
theorem fnBatches_holds : Rows.FnBatchesCardSaid :=
  Claim7.holds_tied_plain_at .later [] _ _ _ _ over (fun _ h => by cases h) (by kernel_rfl) (fun _ h => by cases h) fnBatches_row_tie rfl ⟨rfl, rfl⟩ (by kernel_rfl) rfl plain (by kernel_rfl)
end Go.Proofs.YtfjhdkmdidadiaaGreatDoor.RFBatches
