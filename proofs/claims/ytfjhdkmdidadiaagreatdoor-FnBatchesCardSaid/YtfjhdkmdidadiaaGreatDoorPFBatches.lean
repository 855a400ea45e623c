/- What the models of these functions come to. -/
import Derived.Test.YtfjhdkmdidadiaaGreatDoorP0
import Derived.Test.YtfjhdkmdidadiaaGreatDoorGFBatchesn2
namespace Go.Proofs.YtfjhdkmdidadiaaGreatDoor
open Go Go.Z Go.Proofs Go.MuLone Go.ChangeShapes Go.WideShapes Go.ChangeAt Go.RowKit
set_option linter.unusedVariables false
set_option linter.unusedSimpArgs false
def opOK (o : S_Op) : Bool :=
  inB o.Kind 1 6 && inB o.Key 1 9999 && (bif o.Kind == 1 || o.Kind == 3 then o.Value == 0 else bif o.Kind == 6 then inB o.Value 1 4 else inB o.Value 0 999999)

def wordL (k : Int) : List Int := if k = 1 then [103, 101, 116] else if k = 2 then [112, 117, 116] else if k = 3 then [100, 114, 111, 112] else if k = 4 then [99, 104, 101, 99, 107] else if k = 5 then [97, 100, 100] else [115, 99, 97, 110]
def encOp (o : S_Op) (r : List Int) : List Int := wordL o.Kind ++ (32 :: (digL o.Key.toNat ++ (if o.Kind = 1 ∨ o.Kind = 3 then r else 32 :: (digL o.Value.toNat ++ r))))
theorem encOp_app (o : S_Op) (r : List Int) : encOp o r = encOp o [] ++ r := by
  unfold encOp
  split <;> simp
theorem ND_cons {x : Int} {r : List Int} (h : ¬ isDg x) : ND (x :: r) := fun y s e => by cases e; exact h
theorem opOK_parts {o : S_Op} (h : opOK o = true) : (1 ≤ o.Kind ∧ o.Kind ≤ 6) ∧ (1 ≤ o.Key ∧ o.Key ≤ 9999) ∧ (0 ≤ o.Value ∧ o.Value ≤ 999999) ∧ ((o.Kind = 1 ∨ o.Kind = 3) → o.Value = 0) := by
  unfold opOK at h
  simp only [Bool.and_eq_true] at h
  obtain ⟨⟨h1, h2⟩, h3⟩ := h
  have h1' := inB_iff.1 h1
  have h2' := inB_iff.1 h2
  by_cases hb : o.Kind = 1 ∨ o.Kind = 3
  · have : (o.Kind == 1 || o.Kind == 3) = true := by simpa using hb
    rw [this] at h3
    simp only [cond_true, beq_iff_eq] at h3
    exact ⟨h1', h2', by omega, fun _ => h3⟩
  · have : (o.Kind == 1 || o.Kind == 3) = false := by simpa using hb
    rw [this] at h3
    simp only [cond_false] at h3
    by_cases h6 : o.Kind = 6
    · rw [show (o.Kind == 6) = true from by simpa using h6] at h3
      have := inB_iff.1 h3
      exact ⟨h1', h2', by omega, fun h => absurd h hb⟩
    · rw [show (o.Kind == 6) = false from by simpa using h6] at h3
      have := inB_iff.1 h3
      exact ⟨h1', h2', by omega, fun h => absurd h hb⟩
theorem wordL_len (k : Int) : (wordL k).length ≤ 5 := by
  unfold wordL
  (repeat' split) <;> simp
theorem encOp_len {o : S_Op} (ho : opOK o = true) : (encOp o []).length ≤ 2000000 := by
  obtain ⟨ok1, ok2, ok3, ok4⟩ := opOK_parts ho
  have h1 := (digL_len o.Key.toNat).2
  have h2 := (digL_len o.Value.toNat).2
  have hw := wordL_len o.Kind
  unfold encOp
  split
  · simp only [List.length_append, List.length_cons, List.length_nil]; omega
  · simp only [List.length_append, List.length_cons, List.length_nil]; omega

def encOps : List S_Op → List Int → List Int
  | [], r => r
  | [o], r => encOp o r
  | o :: p :: l, r => encOp o (59 :: 32 :: encOps (p :: l) r)
def encB : List S_Txn → List Int
  | [] => []
  | [t] => encOps t.Ops []
  | t :: u :: l => encOps t.Ops (32 :: 124 :: 32 :: encB (u :: l))
theorem encOps_app : ∀ (l : List S_Op) (r : List Int), encOps l r = encOps l [] ++ r
  | [], r => by simp [encOps]
  | [o], r => encOp_app o r
  | o :: p :: l, r => by
    have ih := encOps_app (p :: l) r
    simp only [encOps]
    rw [encOp_app o (59 :: 32 :: encOps (p :: l) r), encOp_app o (59 :: 32 :: encOps (p :: l) []), ih]
    simp
theorem encOps_join : ∀ l : List S_Op, encOps l [] = joinL [59, 32] (l.map fun o => encOp o [])
  | [] => rfl
  | [o] => rfl
  | o :: p :: l => by
    have ih := encOps_join (p :: l)
    simp only [encOps, List.map_cons, joinL] at ih ⊢
    rw [encOp_app, ih]
    simp
theorem encB_join : ∀ l : List S_Txn, encB l = joinL [32, 124, 32] (l.map fun t => encOps t.Ops [])
  | [] => rfl
  | [t] => rfl
  | t :: u :: l => by
    have ih := encB_join (u :: l)
    simp only [encB, List.map_cons, joinL] at ih ⊢
    rw [encOps_app, ih]
    simp
theorem ND_nil : ND [] := fun x r h => by cases h

def TxnR (t : S_Txn) : Prop := t.Ops.length ≤ 4 ∧ ∀ o ∈ t.Ops, opOK o = true
def txnOK (t : S_Txn) : Bool := t.Ops.all opOK && inB t.Ops.length 1 4
def batchOK (l : List S_Txn) : Bool := inB l.length 1 2 && l.all txnOK
theorem batchOK_parts {l : List S_Txn} (h : batchOK l = true) : 1 ≤ l.length ∧ l.length ≤ 2 ∧ ∀ t ∈ l, txnOK t = true ∧ 1 ≤ t.Ops.length ∧ t.Ops.length ≤ 4 ∧ t.Ops.all opOK = true := by
  unfold batchOK at h
  simp only [Bool.and_eq_true] at h
  have hn := inB_iff.1 h.1
  refine ⟨by omega, by omega, fun t ht => ?_⟩
  have h2 := List.all_eq_true.1 h.2 t ht
  have h3 := h2
  unfold txnOK at h3
  simp only [Bool.and_eq_true] at h3
  have := inB_iff.1 h3.2
  exact ⟨h2, by omega, by omega, h3.1⟩
def opI (L : List Int) (s : Nat × Bool) : S_Op × (Nat × Bool) := (⟨(nI L 1 6 s).1, (nI L 1 9999 (nI L 1 6 s).2).1, (nI L 0 999999 (nI L 1 9999 (nI L 1 6 s).2).2).1⟩, (nI L 0 999999 (nI L 1 9999 (nI L 1 6 s).2).2).2)
def opS (L : List Int) (q : Nat) : S_Op × Nat := (⟨(nS L q).1, (nS L (nS L q).2).1, (nS L (nS L (nS L q).2).2).1⟩, (nS L (nS L (nS L q).2).2).2)
def rngO (b : S_Op) : Bool := inB b.Kind 1 6 && inB b.Key 1 9999 && inB b.Value 0 999999
theorem op_pair (L : List Int) : RPair L (opI L) (opS L) rngO :=
  RPair.seq (α := Int × Int) (RPair.seq (RPair.base L 1 6 (by decide)) (RPair.base L 1 9999 (by decide)) Prod.mk (fun ab => inB ab.1 1 6 && inB ab.2 1 9999) (fun _ _ => rfl)) (RPair.base L 0 999999 (by decide)) (fun ab c => ⟨ab.1, ab.2, c⟩) rngO (fun _ _ => rfl)
theorem opS_le {L : List Int} {q : Nat} (h : q ≤ L.length + 1) : (opS L q).2 ≤ L.length + 1 := nS_le (nS_le (nS_le h))
def txI (L : List Int) (s : Nat × Bool) : S_Txn × (Nat × Bool) := (⟨(rep (opI L) (nI L 1 4 s).1.toNat (nI L 1 4 s).2).1⟩, (rep (opI L) (nI L 1 4 s).1.toNat (nI L 1 4 s).2).2)
def txS (L : List Int) (q : Nat) : S_Txn × Nat := (⟨(rep (opS L) (cS L 4 q).1.toNat (cS L 4 q).2).1⟩, (rep (opS L) (cS L 4 q).1.toNat (cS L 4 q).2).2)
def rngT (t : S_Txn) : Bool := inB (t.Ops.length : Int) 1 4 && t.Ops.all rngO
theorem tx_pair (L : List Int) : RPair L (txI L) (txS L) rngT := RPair.count (op_pair L) 4 (fun l => (⟨l⟩ : S_Txn)) rngT (by decide) (fun _ => rfl)
theorem txS_le {L : List Int} {q : Nat} (h : q ≤ L.length + 1) : (txS L q).2 ≤ L.length + 1 := rep_le (f := opS L) (fun q hq => opS_le hq) _ _ (cS_le h)
def enI (L : List Int) (s : Nat × Bool) : (List Int × List S_Txn) × (Nat × Bool) :=
  (((rep (nI L 0 7) 40 s).1, (rep (txI L) (nI L 1 2 (rep (nI L 0 7) 40 s).2).1.toNat (nI L 1 2 (rep (nI L 0 7) 40 s).2).2).1), (rep (txI L) (nI L 1 2 (rep (nI L 0 7) 40 s).2).1.toNat (nI L 1 2 (rep (nI L 0 7) 40 s).2).2).2)
def enS (L : List Int) (q : Nat) : (List Int × List S_Txn) × Nat :=
  (((rep (nS L) 40 q).1, (rep (txS L) (cS L 2 (rep (nS L) 40 q).2).1.toNat (cS L 2 (rep (nS L) 40 q).2).2).1), (rep (txS L) (cS L 2 (rep (nS L) 40 q).2).1.toNat (cS L 2 (rep (nS L) 40 q).2).2).2)
def rngE (x : List Int × List S_Txn) : Bool := x.1.all (fun y => inB y 0 7) && (inB (x.2.length : Int) 1 2 && x.2.all rngT)
theorem en_pair (L : List Int) : RPair L (enI L) (enS L) rngE :=
  RPair.seq ((RPair.base L 0 7 (by decide)).reps 40) (RPair.count (tx_pair L) 2 (fun l => l) (fun l => inB (l.length : Int) 1 2 && l.all rngT) (by decide) (fun _ => rfl)) Prod.mk rngE (fun _ _ => rfl)
theorem txI_len (L : List Int) (s : Nat × Bool) : (txI L s).1.Ops.length ≤ 4 := by
  have := nI_cnt L 4 (by decide) s 1 (by decide)
  unfold txI; simp only [rep_len]; omega
theorem txS_len (L : List Int) (q : Nat) : (txS L q).1.Ops.length ≤ 4 := by
  have := cS_cnt L 4 (by decide) q
  unfold txS; simp only [rep_len]; omega

def opInts (l : List S_Op) : List Int := l.flatMap (fun o => [o.Kind, o.Key, o.Value])
theorem opInts_snoc (l : List S_Op) (b : S_Op) : opInts (l ++ [b]) = opInts l ++ [b.Kind, b.Key, b.Value] := by simp [opInts]
theorem opInts_len (l : List S_Op) : (opInts l).length = 3 * l.length := by
  induction l with
  | nil => rfl
  | cons a l ih =>
    show ([a.Kind, a.Key, a.Value] ++ opInts l).length = _
    rw [List.length_append, ih]; simp only [List.length_cons, List.length_nil]; omega
def txnInts (l : List S_Txn) : List Int := l.flatMap (fun t => [(t.Ops.length : Int)] ++ opInts t.Ops)
theorem txnInts_snoc (l : List S_Txn) (b : S_Txn) : txnInts (l ++ [b]) = txnInts l ++ [(b.Ops.length : Int)] ++ opInts b.Ops := by simp [txnInts]
theorem txnInts_len : ∀ (l : List S_Txn), (∀ t ∈ l, t.Ops.length ≤ 4) → (txnInts l).length ≤ 13 * l.length
  | [], _ => Nat.le_refl _
  | a :: l, h => by
    have ih := txnInts_len l (fun t ht => h t (List.mem_cons_of_mem _ ht))
    have h1 := h a (List.mem_cons_self ..)
    have h2 := opInts_len a.Ops
    show (([(a.Ops.length : Int)] ++ opInts a.Ops) ++ txnInts l).length ≤ _
    simp only [List.length_append, List.length_cons, List.length_nil]; omega
theorem encOps_len (l : List S_Op) (h : l.length ≤ 4) (ho : l.all opOK = true) : (encOps l []).length ≤ 9000000 := by
  have hb : ∀ o ∈ l, (encOp o []).length ≤ 2000000 := fun o hq => encOp_len (List.all_eq_true.1 ho o hq)
  rw [encOps_join]
  have key : ∀ m : List S_Op, (∀ o ∈ m, (encOp o []).length ≤ 2000000) → (joinL [59, 32] (m.map fun o => encOp o [])).length ≤ m.length * 2000002 := by
    intro m
    induction m with
    | nil => intro _; simp [joinL]
    | cons x r ih =>
      intro hm
      have hx := hm x (by simp)
      have ih' := ih (fun o hq => hm o (by simp [hq]))
      cases r with
      | nil => simp only [List.map_cons, List.map_nil, joinL, List.length_cons, List.length_nil]; omega
      | cons y q =>
        simp only [List.map_cons, joinL, List.length_append, List.length_cons, List.length_nil] at ih' ⊢
        omega
  have := key l hb
  have h4 : l.length * 2000002 ≤ 4 * 2000002 := Nat.mul_le_mul_right _ h
  omega

theorem idx_slices_IndexFunc_string_string (l : List ByteArray) (q : ByteArray → Option Bool) (p : ByteArray → Bool) (h : l.length ≤ 1073741824) (hq : ∀ x, x ∈ l → q x = some (p x)) : slices_IndexFunc_string_string.f l q = some (idxOf l ByteArray.empty p) := by
  unfold slices_IndexFunc_string_string.f idxOf
  have := loopO_find (step := fun s => slices_IndexFunc_string_string.s0 l q s) (fun k => (k : Int)) l.length (fun k => p (l.getD k ByteArray.empty)) (fun k => (k : Int)) (t := ()) (fun k hk => by
    simp only [slices_IndexFunc_string_string.s0, decide_eq_true (show (k : Int) < (l.length : Int) by omega), cond_true, if_pos (show (0 : Int) ≤ (k : Int) ∧ (k : Int) < (l.length : Int) by omega), Int.toNat_natCast, hq _ (getD_mem hk _), Option.bind_some]
    rw [w64_id (by omega) (by omega)]
    cases p (l.getD k ByteArray.empty) <;> rfl) (by
    simp only [slices_IndexFunc_string_string.s0]
    rw [decide_eq_false (by omega)]; rfl)
  rw [show ((0 : Int)) = ((0 : Nat) : Int) from rfl, this]
  cases (List.range l.length).find? (fun k => p (l.getD k ByteArray.empty)) <;> rfl

theorem any_slices_ContainsFunc_string_string (l : List ByteArray) (q : ByteArray → Option Bool) (p : ByteArray → Bool) (h : l.length ≤ 1073741824) (hq : ∀ x, x ∈ l → q x = some (p x)) : slices_ContainsFunc_string_string.f l q = some (l.any p) := by
  unfold slices_ContainsFunc_string_string.f
  rw [idx_slices_IndexFunc_string_string l q p h hq, ← idxOf_any l ByteArray.empty p]
  rfl

theorem all_impl_areAll_string (l : List ByteArray) (q : ByteArray → Option Bool) (p : ByteArray → Bool) (h : l.length ≤ 1073741824) (hq : ∀ x, x ∈ l → q x = some (p x)) : impl_areAll_string.f l q = some (l.all p) := by
  unfold impl_areAll_string.f
  rw [any_slices_ContainsFunc_string_string l _ (fun x => !p x) h (fun x hx => by unfold impl_areAll_string__c1.f; rw [hq x hx]; rfl)]
  simp only [Option.bind_some, List.any_eq_not_all_not, Bool.not_not]

def shortT (t : ByteArray) : Bool := decide ((t.size : Int) ≤ 65536)
theorem areShort_eq (l : List ByteArray) (h : l.length ≤ 1073741824) : impl_areShort.f l = some (l.all shortT) := by
  unfold impl_areShort.f
  rw [all_impl_areAll_string l impl_areShort_c1.f shortT h (fun x _ => rfl)]; rfl
theorem areShort1 (t : ByteArray) : impl_areShort.f [t] = some (shortT t) := by
  rw [areShort_eq _ (by simp)]; simp

theorem within_eq (x lo hi : Int) : impl_within.f x lo hi = some (inB x lo hi) := by
  unfold impl_within.f inB; cases decide (lo ≤ x) <;> rfl

theorem idx_slices_IndexFunc_impl_Txn_impl_Txn (l : List S_Txn) (q : S_Txn → Option Bool) (p : S_Txn → Bool) (h : l.length ≤ 1073741824) (hq : ∀ x, x ∈ l → q x = some (p x)) : slices_IndexFunc_impl_Txn_impl_Txn.f l q = some (idxOf l z_Txn p) := by
  unfold slices_IndexFunc_impl_Txn_impl_Txn.f idxOf
  have := loopO_find (step := fun s => slices_IndexFunc_impl_Txn_impl_Txn.s0 l q s) (fun k => (k : Int)) l.length (fun k => p (l.getD k z_Txn)) (fun k => (k : Int)) (t := ()) (fun k hk => by
    simp only [slices_IndexFunc_impl_Txn_impl_Txn.s0, decide_eq_true (show (k : Int) < (l.length : Int) by omega), cond_true, if_pos (show (0 : Int) ≤ (k : Int) ∧ (k : Int) < (l.length : Int) by omega), Int.toNat_natCast, hq _ (getD_mem hk _), Option.bind_some]
    rw [w64_id (by omega) (by omega)]
    cases p (l.getD k z_Txn) <;> rfl) (by
    simp only [slices_IndexFunc_impl_Txn_impl_Txn.s0]
    rw [decide_eq_false (by omega)]; rfl)
  rw [show ((0 : Int)) = ((0 : Nat) : Int) from rfl, this]
  cases (List.range l.length).find? (fun k => p (l.getD k z_Txn)) <;> rfl

theorem any_slices_ContainsFunc_impl_Txn_impl_Txn (l : List S_Txn) (q : S_Txn → Option Bool) (p : S_Txn → Bool) (h : l.length ≤ 1073741824) (hq : ∀ x, x ∈ l → q x = some (p x)) : slices_ContainsFunc_impl_Txn_impl_Txn.f l q = some (l.any p) := by
  unfold slices_ContainsFunc_impl_Txn_impl_Txn.f
  rw [idx_slices_IndexFunc_impl_Txn_impl_Txn l q p h hq, ← idxOf_any l z_Txn p]
  rfl

theorem all_impl_areAll_impl_Txn (l : List S_Txn) (q : S_Txn → Option Bool) (p : S_Txn → Bool) (h : l.length ≤ 1073741824) (hq : ∀ x, x ∈ l → q x = some (p x)) : impl_areAll_impl_Txn.f l q = some (l.all p) := by
  unfold impl_areAll_impl_Txn.f
  rw [any_slices_ContainsFunc_impl_Txn_impl_Txn l _ (fun x => !p x) h (fun x hx => by unfold impl_areAll_impl_Txn__c1.f; rw [hq x hx]; rfl)]
  simp only [Option.bind_some, List.any_eq_not_all_not, Bool.not_not]

theorem isKey_eq (x : Int) : impl_isKey.f x = some (inB x 1 9999) := by unfold impl_isKey.f; rw [within_eq]; rfl

theorem isBare_eq (x : Int) : impl_isBare.f x = some (x == 1 || x == 3) := by
  unfold impl_isBare.f
  cases x == 1 <;> rfl

theorem isValue_eq (x : Int) : impl_isValue.f x = some (inB x 0 999999) := by unfold impl_isValue.f; rw [within_eq]; rfl

theorem impl_OpOK_eq (o : S_Op) : impl_OpOK.f o = some (opOK o) := by
  unfold impl_OpOK.f impl_isBare.f opOK
  simp only [within_eq, isKey_eq, isValue_eq, Option.bind_some]
  cases inB o.Kind 1 6 <;> cases inB o.Key 1 9999 <;> cases o.Kind == 1 <;> cases o.Kind == 3 <;> cases o.Kind == 6 <;> rfl

theorem idx_slices_IndexFunc_impl_Op_impl_Op (l : List S_Op) (q : S_Op → Option Bool) (p : S_Op → Bool) (h : l.length ≤ 1073741824) (hq : ∀ x, x ∈ l → q x = some (p x)) : slices_IndexFunc_impl_Op_impl_Op.f l q = some (idxOf l z_Op p) := by
  unfold slices_IndexFunc_impl_Op_impl_Op.f idxOf
  have := loopO_find (step := fun s => slices_IndexFunc_impl_Op_impl_Op.s0 l q s) (fun k => (k : Int)) l.length (fun k => p (l.getD k z_Op)) (fun k => (k : Int)) (t := ()) (fun k hk => by
    simp only [slices_IndexFunc_impl_Op_impl_Op.s0, decide_eq_true (show (k : Int) < (l.length : Int) by omega), cond_true, if_pos (show (0 : Int) ≤ (k : Int) ∧ (k : Int) < (l.length : Int) by omega), Int.toNat_natCast, hq _ (getD_mem hk _), Option.bind_some]
    rw [w64_id (by omega) (by omega)]
    cases p (l.getD k z_Op) <;> rfl) (by
    simp only [slices_IndexFunc_impl_Op_impl_Op.s0]
    rw [decide_eq_false (by omega)]; rfl)
  rw [show ((0 : Int)) = ((0 : Nat) : Int) from rfl, this]
  cases (List.range l.length).find? (fun k => p (l.getD k z_Op)) <;> rfl

theorem any_slices_ContainsFunc_impl_Op_impl_Op (l : List S_Op) (q : S_Op → Option Bool) (p : S_Op → Bool) (h : l.length ≤ 1073741824) (hq : ∀ x, x ∈ l → q x = some (p x)) : slices_ContainsFunc_impl_Op_impl_Op.f l q = some (l.any p) := by
  unfold slices_ContainsFunc_impl_Op_impl_Op.f
  rw [idx_slices_IndexFunc_impl_Op_impl_Op l q p h hq, ← idxOf_any l z_Op p]
  rfl

theorem all_impl_areAll_impl_Op (l : List S_Op) (q : S_Op → Option Bool) (p : S_Op → Bool) (h : l.length ≤ 1073741824) (hq : ∀ x, x ∈ l → q x = some (p x)) : impl_areAll_impl_Op.f l q = some (l.all p) := by
  unfold impl_areAll_impl_Op.f
  rw [any_slices_ContainsFunc_impl_Op_impl_Op l _ (fun x => !p x) h (fun x hx => by unfold impl_areAll_impl_Op__c1.f; rw [hq x hx]; rfl)]
  simp only [Option.bind_some, List.any_eq_not_all_not, Bool.not_not]

theorem isTxn_eq (t : S_Txn) (h : t.Ops.length ≤ 1073741824) : impl_isTxn.f t = some (txnOK t) := by
  unfold impl_isTxn.f txnOK
  rw [all_impl_areAll_impl_Op t.Ops _ opOK h (fun x _ => impl_OpOK_eq x)]
  simp only [within_eq, Option.bind_some]
  cases inB (t.Ops.length : Int) 1 4 <;> cases t.Ops.all opOK <;> rfl

theorem impl_BatchOK_eq (l : List S_Txn) (h : l.length ≤ 1073741824 ∧ ∀ y, y ∈ l → y.Ops.length ≤ 1073741824) : impl_BatchOK.f l = some (batchOK l) := by
  unfold impl_BatchOK.f batchOK
  rw [all_impl_areAll_impl_Txn l _ txnOK h.1 (fun x hx => isTxn_eq x (h.2 x hx))]
  simp only [within_eq, Option.bind_some]
  cases inB (l.length : Int) 1 2 <;> cases l.all txnOK <;> rfl

/-! A text cut at its spaces. -/
def sp : List Int → List (List Int)
  | [] => [[]]
  | c :: r => if c = 32 then [] :: sp r else match sp r with
    | [] => [[c]]
    | w :: ws => (c :: w) :: ws
theorem sp_word (r : List Int) : ∀ w : List Int, (∀ x ∈ w, x ≠ 32) → sp (w ++ 32 :: r) = w :: sp r
  | [], _ => by simp [sp]
  | c :: w, h => by
    rw [List.cons_append, sp, if_neg (h c (List.mem_cons_self ..)), sp_word r w (fun x hx => h x (List.mem_cons_of_mem _ hx))]
theorem sp_last : ∀ w : List Int, (∀ x ∈ w, x ≠ 32) → sp w = [w]
  | [], _ => rfl
  | c :: w, h => by rw [sp, if_neg (h c (List.mem_cons_self ..)), sp_last w (fun x hx => h x (List.mem_cons_of_mem _ hx))]
def wordsL (l : List Int) : List (List Int) := (sp l).filter (fun w => !w.isEmpty)
theorem u8_32 (b : UInt8) : ((b.toNat : Int) = 32) ↔ b = 32 := by
  constructor
  · intro h
    have : b.toNat = 32 := by omega
    exact UInt8.toNat_inj.1 (by rw [this]; rfl)
  · rintro rfl; rfl
theorem space_miss (s : ByteArray) (h : Lib.indexB s (⟨#[32]⟩ : ByteArray) = -1) : ∀ x ∈ bytesOf s, x ≠ 32 := by
  have h2 : Lib.indexByte s.data.toList 32 = -1 := (Lib.index_one s.data.toList 32).symm.trans h
  intro x hx e
  obtain ⟨b, hb, rfl⟩ := List.mem_map.1 hx
  obtain ⟨k, hk, rfl⟩ := List.mem_iff_getElem.1 hb
  exact Lib.indexByte_none h2 k (by rw [List.getElem?_eq_getElem hk, (u8_32 _).1 e])
theorem space_hit (s : ByteArray) (i : Nat) (h : Lib.indexB s (⟨#[32]⟩ : ByteArray) = i) : bytesOf s = (bytesOf s).take i ++ 32 :: (bytesOf s).drop (i + 1) ∧ ∀ x ∈ (bytesOf s).take i, x ≠ 32 := by
  have h2 : Lib.indexByte s.data.toList 32 = i := (Lib.index_one s.data.toList 32).symm.trans h
  obtain ⟨h3, h4⟩ := Lib.indexByte_some h2
  have hb : (bytesOf s)[i]? = some 32 := by unfold bytesOf; rw [List.getElem?_map, h3]; rfl
  obtain ⟨hi, he⟩ := List.getElem?_eq_some_iff.1 hb
  refine ⟨?_, fun x hx e => ?_⟩
  · conv => lhs; rw [← List.take_append_drop i (bytesOf s), List.drop_eq_getElem_cons hi, he]
  · obtain ⟨k, hk, rfl⟩ := List.mem_iff_getElem.1 hx
    rw [List.length_take] at hk
    rw [List.getElem_take] at e
    have hk2 : k < s.data.toList.length := by have : (bytesOf s).length = s.data.toList.length := by simp [bytesOf]
                                              omega
    refine h4 k (by omega) ?_
    rw [List.getElem?_eq_getElem hk2]
    have : (bytesOf s)[k] = ((s.data.toList[k]).toNat : Int) := by simp [bytesOf]
    rw [this] at e
    rw [(u8_32 _).1 e]
theorem splitB_sp : ∀ (k : Nat) (s : ByteArray), Lib.countB s (⟨#[32]⟩ : ByteArray) = k → (Lib.splitB (⟨#[32]⟩ : ByteArray) 0 k s).map bytesOf = sp (bytesOf s)
  | 0, s, hk => by
    rcases Lib.indexB_cases s (⟨#[32]⟩ : ByteArray) with hix | ⟨i, hix, _⟩
    · rw [Lib.splitB_zero, sp_last _ (space_miss s hix)]; rfl
    · have := Lib.countB_hit s (⟨#[32]⟩ : ByteArray) i (by decide) hix
      omega
  | k + 1, s, hk => by
    rcases Lib.indexB_cases s (⟨#[32]⟩ : ByteArray) with hix | ⟨i, hix, hroom⟩
    · rw [Lib.countB_miss s _ hix] at hk; omega
    · have hc := Lib.countB_hit s (⟨#[32]⟩ : ByteArray) i (by decide) hix
      obtain ⟨h1, h2⟩ := space_hit s i hix
      have hl := bytesOf_len s
      have h1s : (⟨#[32]⟩ : ByteArray).size = 1 := rfl
      rw [h1s] at hroom
      have ih := splitB_sp k (s.extract (i + (⟨#[32]⟩ : ByteArray).size) s.size) (by omega)
      rw [Lib.splitB_hit _ 0 k s i hix, List.map_cons, ih, bytesOf_extract, bytesOf_extract, h1s]
      conv => rhs; rw [h1, sp_word _ _ h2]
      rw [List.take_of_length_le (l := (bytesOf s).drop (i + 1)) (by rw [List.length_drop]; omega)]
      simp
theorem split_eq (x : ByteArray) (hx : x.size ≤ 1048576) : ∃ l, strings_Split.f x (⟨#[32]⟩ : ByteArray) = some l ∧ l.map bytesOf = sp (bytesOf x) ∧ l.length ≤ 1048577 := by
  unfold strings_Split.f
  rw [if_pos ⟨by omega, by decide⟩]
  refine ⟨_, rfl, splitB_sp _ x rfl, ?_⟩
  rw [Lib.splitB_all _ (by decide) 0 _ x rfl]
  have := Lib.countB_le (⟨#[32]⟩ : ByteArray) (by decide) x.size x (Nat.le_refl _)
  omega

theorem idxOf_first {α : Type} (l : List α) (z : α) (p : α → Bool) : (idxOf l z p = -1 ∧ ∀ x ∈ l, p x = false) ∨ ∃ k : Nat, k < l.length ∧ idxOf l z p = (k : Int) ∧ p (l.getD k z) = true ∧ ∀ j, j < k → p (l.getD j z) = false := by
  unfold idxOf
  cases h : (List.range l.length).find? (fun k => p (l.getD k z)) with
  | none =>
    refine .inl ⟨rfl, fun x hx => ?_⟩
    obtain ⟨j, hj, rfl⟩ := List.mem_iff_getElem.1 hx
    rw [List.find?_eq_none] at h
    have := h j (List.mem_range.2 hj)
    rw [getD_lt hj] at this
    simpa using this
  | some k =>
    rw [List.find?_range_eq_some] at h
    exact .inr ⟨k, by simpa using h.2.1, rfl, by simpa using h.1, fun j hj => by simpa using h.2.2 j hj⟩
theorem deleteFunc_eq (l : List ByteArray) (q : ByteArray → Option Bool) (p : ByteArray → Bool) (h : l.length ≤ 1073741824) (hq : ∀ x, x ∈ l → q x = some (p x)) : slices_DeleteFunc_string_string.f l q = some (l.filter fun x => !p x) := by
  unfold slices_DeleteFunc_string_string.f
  rw [idx_slices_IndexFunc_string_string l q p h hq]
  simp only [Option.bind_some]
  rcases idxOf_first l ByteArray.empty p with ⟨e, hn⟩ | ⟨k, hk, e, hpk, hf⟩
  · rw [e]
    have : l.filter (fun x => !p x) = l := List.filter_eq_self.2 (fun x hx => by rw [hn x hx]; rfl)
    rw [this]; rfl
  · rw [e, show ((k : Int) == -1) = false by rw [beq_eq_false_iff_ne]; omega]
    simp only [cond_false]
    have hk0 : (l.take (k + 1)).filter (fun x => !p x) = l.take k := by
      rw [take_snoc l k hk ByteArray.empty, List.filter_append, List.filter_cons, hpk]
      have : (l.take k).filter (fun x => !p x) = l.take k := List.filter_eq_self.2 (fun x hx => by
        obtain ⟨j, hj, rfl⟩ := List.mem_iff_getElem.1 hx
        rw [List.length_take] at hj
        have := hf j (by omega)
        rw [getD_lt (by omega)] at this
        rw [List.getElem_take, this]; rfl)
      rw [this]; simp
    obtain ⟨r, h1, h2⟩ := loopO_wf (step := fun s : List ByteArray × Int × Int => slices_DeleteFunc_string_string.s0 l q s.1 s.2.1 s.2.2)
      (fun s => ∃ i j : Nat, s.2.1 = (i : Int) ∧ s.2.2 = (j : Int) ∧ i < j ∧ j ≤ l.length ∧ s.1.length = l.length ∧ s.1.take i = (l.take j).filter (fun x => !p x) ∧ s.1.drop j = l.drop j)
      (fun r => ∃ u : List ByteArray, ∃ i : Nat, r = .out (u, (i : Int)) ∧ i ≤ l.length ∧ u.length = l.length ∧ u.take i = l.filter (fun x => !p x)) (fun s => l.length - s.2.2.toNat) (fun s hI => by
        obtain ⟨u, i0, j0⟩ := s
        obtain ⟨i, j, hi, hj, hij, hjl, hu, ht, hd⟩ := hI
        simp only at hi hj hu ht hd
        subst hi; subst hj
        by_cases c : j < l.length
        · have hv : u.getD j ByteArray.empty = l.getD j ByteArray.empty := by
            have := congrArg (fun m => m.getD 0 ByteArray.empty) hd
            simpa [List.getD_eq_getElem?_getD, List.getElem?_drop] using this
          simp only [slices_DeleteFunc_string_string.s0, decide_eq_true (show (j : Int) < (l.length : Int) by omega), cond_true, if_pos (show (0 : Int) ≤ (j : Int) ∧ (j : Int) < (l.length : Int) by omega), Int.toNat_natCast, hv, hq _ (getD_mem c _), Option.bind_some]
          have hlt : l.take (j + 1) = l.take j ++ [l.getD j ByteArray.empty] := take_snoc l j c _
          cases hp : p (l.getD j ByteArray.empty)
          · simp only [Bool.not_false, cond_true, if_pos (show (0 : Int) ≤ (i : Int) ∧ (i : Int) < (l.length : Int) by omega), Option.bind_some]
            refine .inl ⟨_, rfl, ⟨i + 1, j + 1, by simp only; rw [w64_id (by omega) (by omega)]; omega, by simp only; rw [w64_id (by omega) (by omega)]; omega, by omega, by omega, by simp only [List.length_set]; exact hu, ?_, ?_⟩, by simp only; rw [w64_id (by omega) (by omega)]; omega⟩
            · simp only
              rw [take_snoc _ i (by rw [List.length_set]; omega) ByteArray.empty, getD_set_self _ _ _ (by omega), List.take_set_of_le (Nat.le_refl _), ht, hlt, List.filter_append, List.filter_cons, hp]
              rfl
            · simp only
              rw [List.drop_set_of_lt (by omega)]
              have := congrArg (List.drop 1) hd
              simpa [List.drop_drop] using this
          · simp only [Bool.not_true, cond_false, Option.bind_some]
            refine .inl ⟨_, rfl, ⟨i, j + 1, rfl, by simp only; rw [w64_id (by omega) (by omega)]; omega, by omega, by omega, hu, ?_, ?_⟩, by simp only; rw [w64_id (by omega) (by omega)]; omega⟩
            · simp only
              rw [ht, hlt, List.filter_append, List.filter_cons, hp]
              simp
            · have := congrArg (List.drop 1) hd
              simpa [List.drop_drop] using this
        · simp only [slices_DeleteFunc_string_string.s0]
          rw [decide_eq_false (by omega)]
          refine .inr ⟨_, rfl, u, i, rfl, by omega, hu, ?_⟩
          rw [ht, List.take_of_length_le (by omega)]) _ (l, (k : Int), w64 ((k : Int) + 1)) (Nat.le_refl _) ⟨k, k + 1, rfl, by simp only; rw [w64_id (by omega) (by omega)]; omega, by omega, by omega, rfl, hk0.symm, rfl⟩
    rw [h1]
    obtain ⟨u, i, rfl, hi, hu, ht⟩ := h2
    simp only [Option.bind_some]
    rw [if_pos (by omega), if_pos (by omega), Int.toNat_natCast]
    have : (clrL u i ByteArray.empty).take i = u.take i := by
      unfold clrL
      apply List.take_left'
      rw [List.length_take]; omega
    rw [this, ht]

theorem sp_len : ∀ (l : List Int), ∀ w ∈ sp l, w.length ≤ l.length
  | [], w, h => by simp [sp] at h; subst h; simp
  | c :: r, w, h => by
    rw [sp] at h
    split at h
    · rcases List.mem_cons.1 h with rfl | h
      · simp
      · have := sp_len r w h; rw [List.length_cons]; omega
    · split at h
      · simp at h; subst h; simp
      · rename_i w0 ws e
        rcases List.mem_cons.1 h with rfl | h
        · have := sp_len r w0 (by rw [e]; exact List.mem_cons_self ..)
          simp only [List.length_cons]; omega
        · have := sp_len r w (by rw [e]; exact List.mem_cons_of_mem _ h)
          rw [List.length_cons]; omega
theorem wordsOf_eq (x : ByteArray) (hx : x.size ≤ 1048576) : ∃ l, impl_wordsOf.f x = some l ∧ l.map bytesOf = wordsL (bytesOf x) ∧ l.length ≤ 1048577 ∧ ∀ w ∈ l, w.size ≤ 1048576 := by
  obtain ⟨l0, e1, e2, e3⟩ := split_eq x hx
  unfold impl_wordsOf.f
  simp only [e1, Option.bind_some]
  rw [deleteFunc_eq l0 impl_wordsOf_c1.f (fun x => x.toList == (⟨#[]⟩ : ByteArray).toList) (by omega) (fun _ _ => rfl)]
  refine ⟨_, rfl, ?_, Nat.le_trans (List.length_filter_le _ _) e3, fun w hw => ?_⟩
  · unfold wordsL
    rw [← e2, List.filter_map]
    congr 1
    apply List.filter_congr
    intro y _
    simp only [Function.comp]
    rw [ba_toList_eq]
    have h0 := bytesOf_len y
    by_cases h : y = (⟨#[]⟩ : ByteArray)
    · subst h; rfl
    · rw [decide_eq_false h]
      have : bytesOf y ≠ [] := fun e => h (ba_ext (by rw [e]; rfl))
      cases hb : bytesOf y with
      | nil => exact absurd hb this
      | cons a r => rfl
  · have hm := (List.mem_filter.1 hw).1
    have := sp_len (bytesOf x) (bytesOf w) (by rw [← e2]; exact List.mem_map.2 ⟨w, hm, rfl⟩)
    rw [bytesOf_len, bytesOf_len] at this
    omega
theorem wordsL_word (w r : List Int) (h : ∀ x ∈ w, x ≠ 32) : wordsL (w ++ 32 :: r) = (if w = [] then [] else [w]) ++ wordsL r := by
  unfold wordsL
  rw [sp_word r w h, List.filter_cons]
  cases w <;> simp
theorem wordsL_last (w : List Int) (h : ∀ x ∈ w, x ≠ 32) : wordsL w = if w = [] then [] else [w] := by
  unfold wordsL
  rw [sp_last w h, List.filter_cons]
  cases w <;> simp

theorem decDigits_digL (n : Nat) : (Lib.decDigits n).map (fun b => (b.toNat : Int)) = digL n := by
  induction n using Nat.strongRecOn with
  | ind n ih =>
    rw [Lib.decDigits, digL]
    by_cases h : n < 10
    · rw [dif_pos h, if_pos h]
      have : (UInt8.ofNat (48 + n)).toNat = 48 + n := by rw [UInt8.toNat_ofNat']; omega
      simp only [List.map_cons, List.map_nil, this]; rfl
    · rw [dif_neg h, if_neg h, List.map_append, ih (n / 10) (by omega)]
      have : (UInt8.ofNat (48 + n % 10)).toNat = 48 + n % 10 := by rw [UInt8.toNat_ofNat']; omega
      simp only [List.map_cons, List.map_nil, this]; rfl
theorem itoa_eq (x : Int) (h0 : 0 ≤ x) (h1 : x ≤ 9223372036854775807) : strconv_Itoa.f x = some (strOfNums (digL x.toNat)) := by
  unfold strconv_Itoa.f itoaB Lib.itoa
  rw [if_pos ⟨by omega, h1⟩, if_neg (by omega)]
  congr 1
  apply ba_ext
  rw [bytes_str (digL_isB _)]
  exact decDigits_digL _

theorem parse_digits : ∀ (l : List Int) (acc : Nat), (∀ x ∈ l, isDg x) → (acc + 1) * 10 ^ l.length ≤ 1000000000000000000 → Lib.parseUint10 acc (l.map fun x => UInt8.ofNat x.toNat) = .ok (l.foldl (fun (a : Nat) x => 10 * a + (x - 48).toNat) acc)
  | [], acc, _, _ => rfl
  | x :: r, acc, h, hb => by
    have hx : 48 ≤ x ∧ x ≤ 57 := h x (List.mem_cons_self ..)
    have hc : (UInt8.ofNat x.toNat).toNat = x.toNat := by rw [UInt8.toNat_ofNat']; omega
    have hp : 1 ≤ 10 ^ r.length := Nat.one_le_pow _ _ (by decide)
    rw [List.length_cons, Nat.pow_succ, Nat.mul_comm (10 ^ r.length) 10, ← Nat.mul_assoc] at hb
    have h1 : (acc + 1) * 10 ≤ 1000000000000000000 := Nat.le_trans (Nat.le_mul_of_pos_right _ hp) hb
    have e : acc * 10 + (x.toNat - 48) = 10 * acc + (x - 48).toNat := by omega
    rw [List.map_cons, Lib.parseUint10, hc, if_pos (by omega), if_neg (by omega), if_neg (by omega), e, parse_digits r _ (fun y hy => h y (List.mem_cons_of_mem _ hy)) ?_]
    · rfl
    · exact Nat.le_trans (Nat.mul_le_mul_right _ (by omega)) hb
theorem fold_val : ∀ (l : List Int) (acc : Nat), (∀ x ∈ l, isDg x) → ((l.foldl (fun (a : Nat) x => 10 * a + (x - 48).toNat) acc : Nat) : Int) = l.foldl (fun a x => 10 * a + (x - 48)) (acc : Int)
  | [], acc, _ => rfl
  | x :: r, acc, h => by
    have hx : 48 ≤ x ∧ x ≤ 57 := h x (List.mem_cons_self ..)
    rw [List.foldl_cons, List.foldl_cons, fold_val r _ (fun y hy => h y (List.mem_cons_of_mem _ hy))]
    congr 1
    omega
theorem digL_lt (n : Nat) : n < 10 ^ (digL n).length := by
  induction n using Nat.strongRecOn with
  | ind n ih =>
    rw [digL]
    by_cases h : n < 10
    · rw [if_pos h]; simpa using h
    · rw [if_neg h, List.length_append, List.length_cons, List.length_nil, Nat.pow_succ]
      have := ih (n / 10) (by omega)
      omega
theorem digL_data (n : Nat) : (strOfNums (digL n)).data.toList = (digL n).map fun x => UInt8.ofNat x.toNat := by simp [strOfNums]
theorem atoi_dig (n : Nat) (h : (digL n).length ≤ 18) : strconv_Atoi.f (strOfNums (digL n)) = some ((n : Int), true) := by
  unfold strconv_Atoi.f
  have hs : (strOfNums (digL n)).size ≤ 18 := by rw [strOfNums_size]; exact h
  rw [if_pos (by omega), digL_data]
  have hp := parse_digits (digL n) 0 (digL_dg n) (by
    rw [Nat.zero_add, Nat.one_mul]
    exact Nat.pow_le_pow_right (by decide) h)
  have hv : (digL n).foldl (fun (a : Nat) x => 10 * a + (x - 48).toNat) 0 = n := by
    have h1 := fold_val (digL n) 0 (digL_dg n)
    have h2 := valL_dig n
    unfold valL at h2
    have : ((0 : Nat) : Int) = 0 := rfl
    rw [this, h2] at h1
    omega
  rw [hv] at hp
  have hlt : n < 1000000000000000000 := Nat.lt_of_lt_of_le (digL_lt n) (Nat.pow_le_pow_right (n := 10) (by decide) h)
  have hne : (digL n).length ≥ 1 := (digL_len n).1
  cases hd : digL n with
  | nil => rw [hd] at hne; simp at hne
  | cons x r =>
    have hx : 48 ≤ x ∧ x ≤ 57 := digL_dg n x (by rw [hd]; exact List.mem_cons_self ..)
    have hc : (UInt8.ofNat x.toNat).toNat = x.toNat := by rw [UInt8.toNat_ofNat']; omega
    rw [hd] at hp
    rw [List.map_cons] at hp ⊢
    unfold Lib.atoiAll
    simp only [hc]
    rw [if_neg (by omega)]
    unfold Lib.parseMag
    rw [if_neg (by simp), hp]
    simp only
    rw [if_neg (by omega), if_neg (by omega), if_neg (by omega)]
    rfl

theorem atoiAll_rng (l : List UInt8) (v : Int) (h : Lib.atoiAll l = .ok v) : -9223372036854775808 ≤ v ∧ v ≤ 9223372036854775807 := by
  unfold Lib.atoiAll at h
  split at h
  · cases h
  · rename_i c r
    simp only at h
    split at h
    · cases h
    · cases h
    · rename_i u hu
      split at h
      · cases h
      · split at h
        · cases h
        · rename_i h1 h2
          injection h with h
          subst h
          split
          · rename_i hn
            have : ¬ 9223372036854775808 < u := fun hh => h2 ⟨hn, hh⟩
            omega
          · rename_i hn
            have : ¬ 9223372036854775808 ≤ u := fun hh => h1 ⟨hn, hh⟩
            omega
/-- What is cut off ahead. -/
theorem trim_some (x : ByteArray) : ∃ y, strings_TrimPrefix.f x (⟨#[45]⟩ : ByteArray) = some y ∧ y.size ≤ x.size ∧ ((bytesOf x).getD 0 0 ≠ 45 → y = x) := by
  have h1 : ((⟨#[45]⟩ : ByteArray).size : Int) = 1 := rfl
  unfold strings_TrimPrefix.f internal_stringslite_TrimPrefix.f internal_stringslite_HasPrefix.f
  simp only [h1]
  by_cases c : (x.size : Int) ≥ 1
  · rw [decide_eq_true c]
    simp only [cond_true, if_pos (show (0 : Int) ≤ 1 ∧ (1 : Int) ≤ (x.size : Int) by omega), Option.bind_some, show (1 : Int).toNat = 1 from rfl]
    cases hq : (x.extract 0 1).toList == (⟨#[45]⟩ : ByteArray).toList
    · exact ⟨x, rfl, Nat.le_refl _, fun _ => rfl⟩
    · refine ⟨_, rfl, by rw [ByteArray.size_extract]; omega, fun hne => ?_⟩
      exfalso
      rw [ba_toList_eq, decide_eq_true_eq] at hq
      apply hne
      have h2 := congrArg bytesOf hq
      rw [bytesOf_extract] at h2
      have hl := bytesOf_len x
      have h3 : (bytesOf x).getD 0 0 = ((List.drop 0 (bytesOf x)).take (1 - 0)).getD 0 0 := by
        cases hb : bytesOf x with
        | nil => rfl
        | cons a r => rfl
      rw [h3, h2]; rfl
  · rw [decide_eq_false c]
    exact ⟨x, rfl, Nat.le_refl _, fun _ => rfl⟩
theorem dig_first (n : Nat) : (digL n).getD 0 0 ≠ 45 := by
  have h := (digL_len n).1
  have h2 := digL_dg n _ (getD_mem (show 0 < (digL n).length by omega) 0)
  unfold isDg at h2; omega
theorem readNumber_spec (x : ByteArray) (hx : x.size ≤ 1048576) : ∃ v b, impl_readNumber.f x = some (v, b) ∧ (∀ n : Nat, x = strOfNums (digL n) → (digL n).length ≤ 18 → v = n ∧ b = true) ∧ (b = true → 0 ≤ v → ∃ n : Nat, x = strOfNums (digL n) ∧ (digL n).length ≤ 18 ∧ v = n) := by
  obtain ⟨y, ey, ys, yx⟩ := trim_some x
  have hA : ∃ w c, strconv_Atoi.f x = some (w, c) ∧ (c = true → -9223372036854775808 ≤ w ∧ w ≤ 9223372036854775807) := by
    unfold strconv_Atoi.f
    rw [if_pos (by omega)]
    cases hE : Lib.atoiAll x.data.toList with
    | ok v => exact ⟨v, true, rfl, fun _ => atoiAll_rng _ _ hE⟩
    | range => exact ⟨_, false, rfl, fun h => by cases h⟩
    | _ => exact ⟨0, false, rfl, fun h => by cases h⟩
  obtain ⟨w, c, eA, hw⟩ := hA
  unfold impl_readNumber.f
  simp only [ey, eA, Option.bind_some]
  cases c
  · refine ⟨w, false, rfl, fun n hn hl => ?_, fun h => by cases h⟩
    have := atoi_dig n hl
    rw [← hn, eA] at this; cases this
  simp only [cond_true]
  by_cases h18 : (y.size : Int) ≤ 18
  · rw [decide_eq_true h18]
    have hI : strconv_Itoa.f w = some (itoaB w) := by unfold strconv_Itoa.f; rw [if_pos (hw rfl)]
    simp only [cond_true, hI, Option.bind_some]
    refine ⟨w, _, rfl, fun n hn hl => ?_, fun hb h0 => ?_⟩
    · have := atoi_dig n hl
      rw [← hn, eA] at this
      have e : w = (n : Int) := by injection this with h; injection h
      refine ⟨e, ?_⟩
      have hd : itoaB w = x := by
        have h1 := itoa_eq (n : Int) (by omega) (by have := (hw rfl).2; omega)
        rw [← e, hI] at h1
        rw [Option.some.inj h1, hn, e, Int.toNat_natCast]
      rw [hd]; exact bs_self x
    · rw [ba_toList_eq, decide_eq_true_eq] at hb
      have h1 := itoa_eq w h0 (hw rfl).2
      rw [hI, hb] at h1
      have hxe : x = strOfNums (digL w.toNat) := Option.some.inj h1
      refine ⟨w.toNat, hxe, ?_, by omega⟩
      have hyx : y = x := yx (by rw [hxe, bytes_str (digL_isB _)]; exact dig_first _)
      have hs := strOfNums_size (digL w.toNat)
      rw [← hxe, ← hyx] at hs
      omega
  · rw [decide_eq_false h18]
    refine ⟨w, false, rfl, fun n hn hl => ?_, fun h => by cases h⟩
    exfalso
    apply h18
    have hs := strOfNums_size (digL n)
    rw [← hn] at hs
    omega

noncomputable def rdN (w : ByteArray) : Int × Bool := (impl_readNumber.f w).getD (0, false)
theorem rdN_eq {w : ByteArray} (h : w.size ≤ 1048576) : impl_readNumber.f w = some (rdN w) := by
  obtain ⟨v, b, e, _⟩ := readNumber_spec w h
  unfold rdN; rw [e]; rfl
theorem readNumbers_eq (l : List ByteArray) (hl : l.length ≤ 1048577) (h : ∀ w ∈ l, w.size ≤ 1048576) : impl_readNumbers.f l = some (bif l.all (fun w => (rdN w).2) then (l.map (fun w => (rdN w).1), true) else ([], false)) := by
  unfold impl_readNumbers.f
  obtain ⟨r, h1, h2⟩ := loopO_wf (step := fun s : List Int × Int => impl_readNumbers.s0 l s.1 s.2)
    (fun s => ∃ k : Nat, k ≤ l.length ∧ s.2 = (k : Int) ∧ s.1 = (l.take k).map (fun w => (rdN w).1) ∧ ∀ w ∈ l.take k, (rdN w).2 = true)
    (fun r => (r = .out (l.map (fun w => (rdN w).1)) ∧ ∀ w ∈ l, (rdN w).2 = true) ∨ (r = .ret ([], false) ∧ ∃ w ∈ l, (rdN w).2 = false)) (fun s => l.length - s.2.toNat) (fun s hI => by
      obtain ⟨u, k0⟩ := s
      obtain ⟨k, hk, hk0, hu, hall⟩ := hI
      simp only at hk0 hu
      subst hk0; subst hu
      by_cases c : k < l.length
      · have hm := getD_mem c ByteArray.empty
        simp only [impl_readNumbers.s0, decide_eq_true (show (k : Int) < (l.length : Int) by omega), cond_true, if_pos (show (0 : Int) ≤ (k : Int) ∧ (k : Int) < (l.length : Int) by omega), Int.toNat_natCast, rdN_eq (h _ hm), Option.bind_some]
        cases hb : (rdN (l.getD k ByteArray.empty)).2
        · exact .inr ⟨_, rfl, .inr ⟨rfl, _, hm, hb⟩⟩
        · simp only [Bool.not_true, cond_false]
          rw [if_pos (by simp only [List.length_map, List.length_take, List.length_cons, List.length_nil]; omega), w64_id (by omega) (by omega)]
          refine .inl ⟨_, rfl, ⟨k + 1, by omega, by simp only; omega, ?_, fun w hw => ?_⟩, by simp only; omega⟩
          · simp only
            rw [take_snoc l k c ByteArray.empty, List.map_append]; rfl
          · rw [take_snoc l k c ByteArray.empty] at hw
            rcases List.mem_append.1 hw with hw | hw
            · exact hall w hw
            · rw [List.mem_singleton.1 hw]; exact hb
      · have e : k = l.length := by omega
        simp only [impl_readNumbers.s0]
        rw [decide_eq_false (by omega)]
        rw [e, List.take_length] at hall ⊢
        exact .inr ⟨_, rfl, .inl ⟨rfl, hall⟩⟩) _ (([] : List Int), 0) (Nat.le_refl _) ⟨0, Nat.zero_le _, rfl, rfl, by simp⟩
  rw [h1]
  rcases h2 with ⟨rfl, ha⟩ | ⟨rfl, w, hw, hb⟩
  · rw [List.all_eq_true.2 ha]; rfl
  · have : l.all (fun w => (rdN w).2) = false := List.all_eq_false.2 ⟨w, hw, by rw [hb]; decide⟩
    rw [this]; rfl

theorem index_str (l : List ByteArray) (w : ByteArray) (h : l.length ≤ 1073741824) : slices_Index_string_string.f l w = some (idxOf l ByteArray.empty (fun y => w.toList == y.toList)) := by
  unfold slices_Index_string_string.f
  have := loopO_find (step := fun s => slices_Index_string_string.s0 l w s) (fun k => (k : Int)) l.length (fun k => w.toList == (l.getD k ByteArray.empty).toList) (fun k => (k : Int)) (t := ()) (fun k hk => by
    simp only [slices_Index_string_string.s0, decide_eq_true (show (k : Int) < (l.length : Int) by omega), cond_true, if_pos (show (0 : Int) ≤ (k : Int) ∧ (k : Int) < (l.length : Int) by omega), Int.toNat_natCast]
    rw [w64_id (by omega) (by omega)]
    cases w.toList == (l.getD k ByteArray.empty).toList <;> rfl) (by
    simp only [slices_Index_string_string.s0]
    rw [decide_eq_false (by omega)]; rfl)
  have t : loopO (fun s => slices_Index_string_string.s0 l w s) 0 = _ := this
  rw [t]
  unfold idxOf
  cases (List.range l.length).find? (fun k => w.toList == (l.getD k ByteArray.empty).toList) <;> rfl

theorem wf_u8 {y : Int} (h : (Lit.int .u8 y).wf = true) : 0 ≤ y ∧ y ≤ 255 := by
  have h2 := h
  simp [Lit.wf, IntKind.min, IntKind.max, IntKind.signed, IntKind.bits] at h2
  omega
theorem src_new (l : List Int) (hl : l.length ≤ 1048576) (hb : isB l) : ∃ s, spec_l00Source.f l = some ⟨l, 0, s⟩ ∧ SrcB l 0 s 0 := by
  refine ⟨_, rfl, hl, hb, by omega, by omega, ?_⟩
  have := tmod_lt (show (0 : Int) ≤ (l.length : Int) by omega) (show (0 : Int) < 1000 by omega)
  omega

theorem src_byte (x0 : S_l00Src) (B : Int) (h : SrcB x0.code x0.at_ x0.seed B) (hB : B ≤ 2305843009213693952) : ∃ v a s, spec_l00Src_byte.f x0 = some (v, a, s) ∧ 0 ≤ v ∧ v ≤ 255 ∧ SrcB x0.code a s (B + 1) := by
  obtain ⟨code, at', seed⟩ := x0
  obtain ⟨hl, hb, h0, h1, h2, h3⟩ := h
  simp only at hl hb h0 h1 h2 h3
  unfold spec_l00Src_byte.f
  simp only [w64_id (x := at' + 1) (by omega) (by omega)]
  by_cases c : at' + 1 ≤ (code.length : Int)
  · rw [decide_eq_true c]
    have e1 : w64 (at' + 1 - 1) = at' := by rw [w64_id (by omega) (by omega)]; omega
    simp only [cond_true, e1]
    rw [if_pos (by omega), if_pos (by omega)]
    obtain ⟨q1, q2⟩ := getD_isB hb at'.toNat
    generalize code.getD at'.toNat 0 = v at q1 q2 ⊢
    have e2 : IntKind.wrap .i64 v = v := w64_id (by omega) (by omega)
    rw [e2, w64_id (x := seed * 31) (by omega) (by omega), w64_id (x := seed * 31 + v) (by omega) (by omega), w64_id (by omega) (by omega)]
    refine ⟨_, _, _, rfl, by omega, by omega, hl, hb, by omega, by omega, ?_, ?_⟩
    · rw [Int.tmod_eq_emod_of_nonneg (by omega)]; omega
    · rw [Int.tmod_eq_emod_of_nonneg (by omega)]; omega
  · rw [decide_eq_false c]
    simp only [cond_false]
    by_cases c2 : at' + 1 > 3000
    · rw [decide_eq_true c2]
      exact ⟨_, _, _, rfl, by omega, by omega, hl, hb, by omega, by omega, h2, h3⟩
    · rw [decide_eq_false c2]
      simp only [cond_false]
      rw [w64_id (x := seed * 1103515245) (by omega) (by omega), w64_id (by omega) (by omega)]
      have e3 : Int.tmod (seed * 1103515245 + 12345) 2147483648 = (seed * 1103515245 + 12345) % 2147483648 := Int.tmod_eq_emod_of_nonneg (by omega)
      rw [e3]
      have e4 : Int.tdiv ((seed * 1103515245 + 12345) % 2147483648) 65536 = (seed * 1103515245 + 12345) % 2147483648 / 65536 := Int.tdiv_eq_ediv_of_nonneg (by omega)
      rw [e4]
      have e5 : IntKind.wrap .i64 ((seed * 1103515245 + 12345) % 2147483648 / 65536) = (seed * 1103515245 + 12345) % 2147483648 / 65536 := w64_id (by omega) (by omega)
      rw [e5]
      have e6 : Int.tmod ((seed * 1103515245 + 12345) % 2147483648 / 65536) 256 = ((seed * 1103515245 + 12345) % 2147483648 / 65536) % 256 := Int.tmod_eq_emod_of_nonneg (by omega)
      rw [e6]
      exact ⟨_, _, _, rfl, by omega, by omega, hl, hb, by omega, by omega, by omega, by omega⟩

theorem src_next (x0 : S_l00Src) (n B : Int) (h : SrcB x0.code x0.at_ x0.seed B) (hB : B ≤ 1152921504606846976) : ∃ v a s, spec_l00Src_next.f x0 n = some (v, a, s) ∧ 0 ≤ v ∧ (v < n ∨ v = 0) ∧ SrcB x0.code a s (B + 3) := by
  unfold spec_l00Src_next.f
  by_cases c : n ≤ 1
  · rw [decide_eq_true c]; exact ⟨_, _, _, rfl, by omega, .inr rfl, h.up (by omega)⟩
  rw [decide_eq_false c]
  simp only [cond_false]
  by_cases c2 : n ≤ 256
  · obtain ⟨v, a, s, e, h0, h1, h2⟩ := src_byte x0 B h (by omega)
    rw [decide_eq_true c2, e]
    simp only [cond_true, Option.bind_some]
    rw [if_neg (by omega)]
    obtain ⟨q1, q2⟩ := tmod_lt h0 (show 0 < n by omega)
    exact ⟨_, _, _, rfl, q1, .inl q2, h2.up (by omega)⟩
  · rw [decide_eq_false c2]
    obtain ⟨v1, a1, s1, e1, h01, h11, h21⟩ := src_byte x0 B h (by omega)
    obtain ⟨v2, a2, s2, e2, h02, h12, h22⟩ := src_byte ⟨x0.code, a1, s1⟩ (B + 1) h21 (by omega)
    obtain ⟨v3, a3, s3, e3, h03, h13, h23⟩ := src_byte ⟨x0.code, a2, s2⟩ (B + 2) (h22.up (by omega)) (by omega)
    simp only [cond_false, e1, e2, e3, Option.bind_some]
    rw [if_neg (by omega)]
    rw [w64_id (x := v1 * 65536) (by omega) (by omega), w64_id (x := v2 * 256) (by omega) (by omega), w64_id (x := v1 * 65536 + v2 * 256) (by omega) (by omega), w64_id (by omega) (by omega)]
    obtain ⟨q1, q2⟩ := tmod_lt (show 0 ≤ v1 * 65536 + v2 * 256 + v3 by omega) (show 0 < n by omega)
    exact ⟨_, _, _, rfl, q1, .inl q2, h23.up (by omega)⟩

theorem src_op (x0 : S_l00Src) (B : Int) (h : SrcB x0.code x0.at_ x0.seed B) (hB : B ≤ 144115188075855872) : ∃ o a s, spec_l00Src_op.f x0 = some (o, a, s) ∧ opOK o = true ∧ SrcB x0.code a s (B + 15) := by
  unfold spec_l00Src_op.f
  obtain ⟨v1, a1, s1, e1, p1, q1, h1⟩ := src_next x0 6 B h (by omega)
  obtain ⟨v2, a2, s2, e2, p2, q2, h2⟩ := src_next ⟨x0.code, a1, s1⟩ 3 _ h1 (by omega)
  obtain ⟨v3, a3, s3, e3, p3, q3, h3⟩ := src_next ⟨x0.code, a2, s2⟩ 14 _ h2 (by omega)
  simp only [e1, e2, e3, Option.bind_some]
  rw [if_pos (by omega), w64_id (x := 1 + v3) (by omega) (by omega), w64_id (x := 1 + v1) (by omega) (by omega)]
  have hK : 1 ≤ ([2, 2, 1 + v1] : List Int).getD v2.toNat 0 ∧ ([2, 2, 1 + v1] : List Int).getD v2.toNat 0 ≤ 6 := by
    have : v2.toNat = 0 ∨ v2.toNat = 1 ∨ v2.toNat = 2 := by omega
    rcases this with e | e | e <;> rw [e] <;> simp <;> omega
  generalize ([2, 2, 1 + v1] : List Int).getD v2.toNat 0 = K at hK ⊢
  have hok : ∀ V : Int, (K = 1 ∨ K = 3 → V = 0) → (K = 6 → 1 ≤ V ∧ V ≤ 4) → (0 ≤ V ∧ V ≤ 999999) → opOK ⟨K, 1 + v3, V⟩ = true := by
    intro V c1 c2 c3
    unfold opOK
    simp only [Bool.and_eq_true, inB_iff]
    refine ⟨⟨hK, by omega, by omega⟩, ?_⟩
    cases k1 : K == 1
    · cases k3 : K == 3
      · cases k6 : K == 6
        · simp only [Bool.or_self, cond_false, inB_iff]; exact c3
        · simp only [Bool.or_self, cond_false, cond_true, inB_iff]; exact c2 (by simpa using k6)
      · simp only [Bool.or_true, cond_true, beq_iff_eq]; exact c1 (.inr (by simpa using k3))
    · simp only [Bool.true_or, cond_true, beq_iff_eq]; exact c1 (.inl (by simpa using k1))
  cases k1 : K == 1
  case true => exact ⟨_, _, _, rfl, hok 0 (fun _ => rfl) (fun e => by rw [e] at k1; cases k1) (by omega), h3.up (by omega)⟩
  cases k3 : K == 3
  case true => exact ⟨_, _, _, rfl, hok 0 (fun _ => rfl) (fun e => by rw [e] at k3; cases k3) (by omega), h3.up (by omega)⟩
  have n1 : K ≠ 1 := by simpa using k1
  have n3 : K ≠ 3 := by simpa using k3
  simp only [cond_false, Option.bind_some]
  cases k6 : K == 6
  case true =>
    obtain ⟨v4, a4, s4, e4, p4, q4, h4⟩ := src_next ⟨x0.code, a3, s3⟩ 4 _ h3 (by omega)
    simp only [cond_true, e4, Option.bind_some]
    rw [w64_id (by omega) (by omega)]
    exact ⟨_, _, _, rfl, hok _ (fun e => by omega) (fun _ => by omega) (by omega), h4.up (by omega)⟩
  have n6 : K ≠ 6 := by simpa using k6
  simp only [cond_false]
  cases k5 : K == 5
  case true =>
    obtain ⟨v4, a4, s4, e4, p4, q4, h4⟩ := src_next ⟨x0.code, a3, s3⟩ 5 _ h3 (by omega)
    obtain ⟨v5, a5, s5, e5, p5, q5, h5⟩ := src_next ⟨x0.code, a4, s4⟩ 9 _ h4 (by omega)
    have ht : Int.tdiv v5 8 = v5 / 8 := Int.tdiv_eq_ediv_of_nonneg p5
    have hw : IntKind.wrap .i64 (Int.tdiv v5 8) = v5 / 8 := by rw [ht]; exact w64_id (by omega) (by omega)
    simp only [cond_true, e4, e5, hw, Option.bind_some]
    rw [if_pos (by omega)]
    simp only [Option.bind_some]
    have hV : 0 ≤ ([v4, 999999] : List Int).getD (v5 / 8).toNat 0 ∧ ([v4, 999999] : List Int).getD (v5 / 8).toNat 0 ≤ 999999 := by
      have : (v5 / 8).toNat = 0 ∨ (v5 / 8).toNat = 1 := by omega
      rcases this with e | e <;> rw [e] <;> simp <;> omega
    exact ⟨_, _, _, rfl, hok _ (fun e => by omega) (fun e => by omega) hV, h5.up (by omega)⟩
  obtain ⟨v4, a4, s4, e4, p4, q4, h4⟩ := src_next ⟨x0.code, a3, s3⟩ 4 _ h3 (by omega)
  simp only [cond_false, e4, Option.bind_some]
  exact ⟨_, _, _, rfl, hok _ (fun e => by omega) (fun e => by omega) (by omega), h4.up (by omega)⟩

theorem src_batch2 (x0 : S_l00Src) (B : Int) (h : SrcB x0.code x0.at_ x0.seed B) (hB : B ≤ 72057594037927936) : ∃ b a s, spec_l00Src_batch.f x0 = some (b, a, s) ∧ (1 ≤ b.length ∧ b.length ≤ 2 ∧ ∀ t ∈ b, TxnR t ∧ 1 ≤ t.Ops.length) ∧ SrcB x0.code a s (B + 200) := by
  unfold spec_l00Src_batch.f
  obtain ⟨v, a1, s1, e1, p1, q1, h1⟩ := src_next x0 2 B h (by omega)
  simp only [e1, Option.bind_some]
  rw [w64_id (by omega) (by omega)]
  obtain ⟨r, l1, l2⟩ := loopO_wf (step := fun s : List S_Txn × Int × Int × Int => spec_l00Src_batch.s0 x0 s.1 s.2.1 s.2.2.1 s.2.2.2)
    (fun s => 0 ≤ s.2.1 ∧ s.2.1 ≤ 2 ∧ (1 ≤ s.1.length + s.2.1.toNat ∧ s.1.length + s.2.1.toNat ≤ 2) ∧ (∀ t ∈ s.1, TxnR t ∧ 1 ≤ t.Ops.length) ∧ SrcB x0.code s.2.2.1 s.2.2.2 (B + 3 + (2 - s.2.1) * 63))
    (fun r => ∃ b a s, r = .out (b, a, s) ∧ (1 ≤ b.length ∧ b.length ≤ 2 ∧ ∀ t ∈ b, TxnR t ∧ 1 ≤ t.Ops.length) ∧ SrcB x0.code a s (B + 200)) (fun s => s.2.1.toNat) (fun s hI => by
      obtain ⟨b, i, a, sd⟩ := s
      obtain ⟨i0, i2, hb, hT, hS⟩ := hI
      simp only at i0 i2 hb hT hS
      by_cases c : i > 0
      · obtain ⟨v1, a1, s1, e1, p1, q1, h1⟩ := src_next ⟨x0.code, a, sd⟩ 4 _ hS (by omega)
        obtain ⟨r, m1, m2⟩ := loopO_wf (step := fun s : Int × Int × Int × List S_Op => spec_l00Src_batch.s1 x0 s.1 s.2.1 s.2.2.1 s.2.2.2)
          (fun s => 0 ≤ s.1 ∧ s.1 ≤ 4 ∧ (1 ≤ s.2.2.2.length + s.1.toNat ∧ s.2.2.2.length + s.1.toNat ≤ 4) ∧ (∀ o ∈ s.2.2.2, opOK o = true) ∧ SrcB x0.code s.2.1 s.2.2.1 (B + 3 + (2 - i) * 63 + 3 + (4 - s.1) * 15))
          (fun r => ∃ a s o, r = .out (a, s, o) ∧ (TxnR ⟨o⟩ ∧ 1 ≤ o.length) ∧ SrcB x0.code a s (B + 3 + (2 - i) * 63 + 63)) (fun s => s.1.toNat) (fun s hJ => by
            obtain ⟨j, a, sd, o⟩ := s
            obtain ⟨j0, j4, ho, hO, hS⟩ := hJ
            simp only at j0 j4 ho hO hS
            by_cases c : j > 0
            · obtain ⟨o1, a2, s2, e2, p2, h2⟩ := src_op ⟨x0.code, a, sd⟩ _ hS (by omega)
              simp only [spec_l00Src_batch.s1, decide_eq_true c, cond_true, e2, Option.bind_some]
              rw [if_pos (by simp only [List.length_cons, List.length_nil]; omega), w64_id (by omega) (by omega)]
              refine .inl ⟨_, rfl, ⟨by simp only; omega, by simp only; omega, by simp only [List.length_append, List.length_cons, List.length_nil]; omega, fun q hq => ?_, h2.up (by simp only; omega)⟩, by simp only; omega⟩
              rcases List.mem_append.1 hq with hq | hq
              · exact hO q hq
              · simp only [List.mem_singleton] at hq; subst hq; exact p2
            · simp only [spec_l00Src_batch.s1, decide_eq_false c, cond_false]
              exact .inr ⟨_, rfl, a, sd, o, rfl, ⟨⟨by simp only; omega, hO⟩, by omega⟩, hS.up (by omega)⟩) _ (1 + v1, a1, s1, ([] : List S_Op)) (Nat.le_refl _) ⟨by simp only; omega, by simp only; omega, by simp only [List.length_nil]; omega, by simp, h1.up (by simp only; omega)⟩
        obtain ⟨a3, s3, o3, rfl, ht, hS3⟩ := m2
        simp only [spec_l00Src_batch.s0, decide_eq_true c, cond_true, e1, Option.bind_some]
        rw [w64_id (x := 1 + v1) (by omega) (by omega), m1]
        simp only [Option.bind_some]
        rw [if_pos (by simp only [List.length_cons, List.length_nil]; omega), w64_id (by omega) (by omega)]
        refine .inl ⟨_, rfl, ⟨by simp only; omega, by simp only; omega, by simp only [List.length_append, List.length_cons, List.length_nil]; omega, fun q hq => ?_, hS3.up (by simp only; omega)⟩, by simp only; omega⟩
        rcases List.mem_append.1 hq with hq | hq
        · exact hT q hq
        · simp only [List.mem_singleton] at hq; subst hq; exact ht
      · simp only [spec_l00Src_batch.s0, decide_eq_false c, cond_false]
        exact .inr ⟨_, rfl, b, a, sd, rfl, ⟨by omega, by omega, hT⟩, hS.up (by omega)⟩) _ (([] : List S_Txn), 1 + v, a1, s1) (Nat.le_refl _) ⟨by simp only; omega, by simp only; omega, by simp only [List.length_nil]; omega, by simp, h1.up (by simp only; omega)⟩
  obtain ⟨b, a, s, rfl, hb, hS⟩ := l2
  rw [l1]
  exact ⟨_, _, _, rfl, hb, hS⟩
theorem src_batch (x0 : S_l00Src) (B : Int) (h : SrcB x0.code x0.at_ x0.seed B) (hB : B ≤ 72057594037927936) : ∃ b a s, spec_l00Src_batch.f x0 = some (b, a, s) ∧ (b.length ≤ 2 ∧ ∀ t ∈ b, TxnR t) ∧ SrcB x0.code a s (B + 200) := by
  obtain ⟨b, a, s, e, ⟨_, h2, h3⟩, h4⟩ := src_batch2 x0 B h hB
  exact ⟨b, a, s, e, ⟨h2, fun t ht => (h3 t ht).1⟩, h4⟩

theorem batchOf_some (l : List Int) (hl : l.length ≤ 1048576) (hb : isB l) : ∃ o, spec_BatchOf.f l = some o ∧ batchOK o = true := by
  obtain ⟨s, e, h⟩ := src_new l hl hb
  obtain ⟨d, a, s2, e2, h2, h3⟩ := src_batch2 ⟨l, 0, s⟩ 0 h (by omega)
  refine ⟨d, by unfold spec_BatchOf.f; simp only [e, e2, Option.bind_some], ?_⟩
  unfold batchOK
  rw [Bool.and_eq_true, List.all_eq_true, inB_iff]
  refine ⟨by omega, fun t ht => ?_⟩
  obtain ⟨⟨h4, h5⟩, h6⟩ := h2.2.2 t ht
  unfold txnOK
  rw [Bool.and_eq_true, List.all_eq_true, inB_iff]
  exact ⟨h5, by omega⟩

theorem opText_eq (o : S_Op) (ho : opOK o = true) : impl_opText.f o = some (strOfNums (encOp o [])) := by
  obtain ⟨ok1, ok2, ok3, ok4⟩ := opOK_parts ho
  have h1 := (digL_len o.Key.toNat).2
  have h2 := (digL_len o.Value.toNat).2
  unfold impl_opText.f impl_opWords.f
  simp only [Option.bind_some]
  rw [if_pos (by simp; omega), itoa_eq o.Key (by omega) (by omega)]
  simp only [Option.bind_some, isBare_eq]
  have hword : ([(⟨#[]⟩ : ByteArray), (⟨#[103, 101, 116]⟩ : ByteArray), (⟨#[112, 117, 116]⟩ : ByteArray), (⟨#[100, 114, 111, 112]⟩ : ByteArray), (⟨#[99, 104, 101, 99, 107]⟩ : ByteArray), (⟨#[97, 100, 100]⟩ : ByteArray), (⟨#[115, 99, 97, 110]⟩ : ByteArray)]).getD o.Kind.toNat ByteArray.empty = strOfNums (wordL o.Kind) := by
    have ho1 : o.Kind = 1 ∨ o.Kind = 2 ∨ o.Kind = 3 ∨ o.Kind = 4 ∨ o.Kind = 5 ∨ o.Kind = 6 := by omega
    rcases ho1 with e | e | e | e | e | e <;> rw [e] <;> rfl
  have h32 : (⟨#[32]⟩ : ByteArray) = strOfNums [32] := rfl
  have hw := wordL_len o.Kind
  rw [hword, h32, ← str_append, ← str_append]
  simp only [strOfNums_size, List.length_append, List.length_cons, List.length_nil]
  rw [if_pos (by omega), if_pos (by omega)]
  by_cases hb : o.Kind = 1 ∨ o.Kind = 3
  · have hu : (o.Kind == 1 || o.Kind == 3) = true := by simpa using hb
    simp only [hu, cond_true]
    unfold encOp
    rw [if_pos hb]; simp
  · have hu : (o.Kind == 1 || o.Kind == 3) = false := by simpa using hb
    simp only [hu, cond_false, itoa_eq o.Value (by omega) (by omega), Option.bind_some]
    rw [if_pos (by omega), ← str_append, ← str_append]
    simp only [strOfNums_size, List.length_append, List.length_cons, List.length_nil]
    rw [if_pos (by omega)]
    unfold encOp
    rw [if_neg hb]; simp

theorem join_map (f : Int → UInt8) (sep : List Int) : ∀ l : List (List Int), Lib.join (l.map (·.map f)) (sep.map f) = (joinL sep l).map f
  | [] => rfl
  | [a] => by simp [joinL, Lib.join_one]
  | a :: b :: r => by
    have ih := join_map f sep (b :: r)
    simp only [List.map_cons, joinL, List.map_append] at ih ⊢
    rw [← ih]
    simp [Lib.join, List.intercalate]
theorem joinB_eq (sep : List Int) (l : List (List Int)) : joinB (l.map strOfNums) (strOfNums sep) = strOfNums (joinL sep l) := by
  have h : ∀ m : List Int, (strOfNums m).data.toList = m.map (fun x => UInt8.ofNat x.toNat) := fun m => by simp [strOfNums]
  unfold joinB
  have e : (l.map strOfNums).map (·.data.toList) = l.map (·.map (fun x => UInt8.ofNat x.toNat)) := by
    rw [List.map_map]
    exact List.map_congr_left fun a _ => h a
  rw [e, h, join_map, ← h]
theorem sjoin_eq (sep : List Int) (l : List (List Int)) (hl : l.length ≤ 1000) (hb : (joinL sep l).length ≤ 100000000) : strings_Join.f (l.map strOfNums) (strOfNums sep) = some (strOfNums (joinL sep l)) := by
  unfold strings_Join.f
  rw [joinB_eq, if_pos ⟨by simp only [List.length_map]; omega, by rw [strOfNums_size]; omega⟩]

theorem itxnText_run (L : List S_Txn) (j : Nat) (hj : j < L.length) (ht : txnOK (L.getD j z_Txn) = true) : (loopO (fun s : List ByteArray × Int => impl_batchText.s1 L (j : Int) s.1 s.2) (([] : List ByteArray), 0)) = some (.out (((L.getD j z_Txn).Ops.map fun o => encOp o []).map strOfNums)) := by
  unfold txnOK at ht
  simp only [Bool.and_eq_true] at ht
  have hn := inB_iff.1 ht.2
  generalize hO : (L.getD j z_Txn).Ops = O at ht hn
  have := loopO_run (step := fun s : List ByteArray × Int => impl_batchText.s1 L (j : Int) s.1 s.2) (fun k => (((O.take k).map fun o => encOp o []).map strOfNums, (k : Int))) O.length (r := .out ((O.map fun o => encOp o []).map strOfNums)) (fun k hk => by
    have hT : O.take (k + 1) = O.take k ++ [O.getD k z_Op] := by
      rw [List.take_add_one, List.getD_eq_getElem?_getD, List.getElem?_eq_getElem hk]; rfl
    have hok := List.all_eq_true.1 ht.1 _ (getD_mem hk z_Op)
    simp only [impl_batchText.s1, Int.toNat_natCast, hO, decide_eq_true (show (k : Int) < (O.length : Int) by omega), cond_true, if_pos (show (0 : Int) ≤ (k : Int) ∧ (k : Int) < (O.length : Int) by omega), opText_eq _ hok, Option.bind_some]
    rw [if_pos (by simp; omega), w64_id (by omega) (by omega), hT]
    simp) (by
    simp only [impl_batchText.s1, Int.toNat_natCast, hO]
    rw [decide_eq_false (by omega), List.take_length]; rfl)
  exact this
theorem batchText_eq (L : List S_Txn) (h : batchOK L = true) : impl_batchText.f L = some (strOfNums (encB L)) := by
  obtain ⟨n1, n2, hT⟩ := batchOK_parts h
  unfold impl_batchText.f
  have h59 : (⟨#[59, 32]⟩ : ByteArray) = strOfNums [59, 32] := rfl
  have h124 : (⟨#[32, 124, 32]⟩ : ByteArray) = strOfNums [32, 124, 32] := rfl
  have := loopO_run (step := fun s : List ByteArray × Int => impl_batchText.s0 L s.1 s.2) (fun k => (((L.take k).map fun t => encOps t.Ops []).map strOfNums, (k : Int))) L.length (r := .out ((L.map fun t => encOps t.Ops []).map strOfNums)) (fun k hk => by
    have hTk : L.take (k + 1) = L.take k ++ [L.getD k z_Txn] := by
      rw [List.take_add_one, List.getD_eq_getElem?_getD, List.getElem?_eq_getElem hk]; rfl
    obtain ⟨t1, t2, t3, t4⟩ := hT _ (getD_mem hk z_Txn)
    have hlen := encOps_len _ t3 t4
    rw [encOps_join] at hlen
    have hj := sjoin_eq [59, 32] ((L.getD k z_Txn).Ops.map fun o => encOp o []) (by simp only [List.length_map]; omega) (by omega)
    rw [← encOps_join] at hj
    simp only [impl_batchText.s0, decide_eq_true (show (k : Int) < (L.length : Int) by omega), cond_true, if_pos (show (0 : Int) ≤ (k : Int) ∧ (k : Int) < (L.length : Int) by omega), itxnText_run L k hk t1, Option.bind_some, h59, hj]
    rw [if_pos (by simp; omega), w64_id (by omega) (by omega), hTk]
    simp) (by
    simp only [impl_batchText.s0]
    rw [decide_eq_false (by omega), List.take_length]; rfl)
  have this2 : loopO (fun s : List ByteArray × Int => impl_batchText.s0 L s.1 s.2) (([] : List ByteArray), 0) = _ := this
  rw [this2, h124]
  simp only [Option.bind_some]
  have key : ∀ m : List (List Int), (∀ a ∈ m, a.length ≤ 9000000) → (joinL [32, 124, 32] m).length ≤ m.length * 9000003 := by
    intro m
    induction m with
    | nil => intro _; simp [joinL]
    | cons x r ih =>
      intro hm
      have hx := hm x (by simp)
      have ih' := ih (fun o hq => hm o (by simp [hq]))
      cases r with
      | nil => simp only [joinL, List.length_cons, List.length_nil]; omega
      | cons y q =>
        simp only [joinL, List.length_append, List.length_cons, List.length_nil] at ih' ⊢
        omega
  have hk := key (L.map fun t => encOps t.Ops []) (fun a ha => by
    obtain ⟨t, ht, rfl⟩ := List.mem_map.1 ha
    obtain ⟨t1, t2, t3, t4⟩ := hT t ht
    exact encOps_len t.Ops t3 t4)
  rw [List.length_map] at hk
  rw [sjoin_eq [32, 124, 32] (L.map fun t => encOps t.Ops []) (by simp only [List.length_map]; omega) (by omega), ← encB_join]
  rfl

theorem l01In_eq (x lo hi : Int) : spec_l01In.f x lo hi = some (inB x lo hi) := by
  unfold spec_l01In.f inB; cases decide (lo ≤ x) <;> rfl

theorem spec_OpOK_eq (o : S_Op) : spec_OpOK.f o = some (opOK o) := by
  unfold spec_OpOK.f opOK
  simp only [l01In_eq, Option.bind_some]
  cases inB o.Kind 1 6 <;> cases inB o.Key 1 9999 <;> cases o.Kind == 1 <;> cases o.Kind == 3 <;> cases o.Kind == 6 <;> rfl

theorem l09Txn_eq (t : S_Txn) (h : t.Ops.length ≤ 1073741824) : spec_l09Txn.f t = some (txnOK t) := by
  unfold spec_l09Txn.f
  have := loopO_scan (step := fun s => spec_l09Txn.s0 t s) (fun k => (k : Int)) t.Ops.length (fun k => opOK (t.Ops.getD k z_Op)) (b := false) (t := ()) (fun k hk => by
    simp only [spec_l09Txn.s0, spec_OpOK_eq, Option.bind_some, Int.toNat_natCast, decide_eq_true (show (k : Int) < (t.Ops.length : Int) by omega), cond_true, if_pos (show (0 : Int) ≤ (k : Int) ∧ (k : Int) < (t.Ops.length : Int) by omega)]
    rw [w64_id (by omega) (by omega)]
    cases opOK (t.Ops.getD k z_Op) <;> rfl) (by
    simp only [spec_l09Txn.s0]
    rw [decide_eq_false (by omega)]; rfl)
  rw [show ((0 : Int)) = ((0 : Nat) : Int) from rfl, this, all_range t.Ops z_Op opOK]
  unfold txnOK
  simp only [l01In_eq, Option.bind_some]
  cases t.Ops.all opOK <;> rfl

theorem spec_BatchOK_eq (l : List S_Txn) (h : l.length ≤ 1073741824 ∧ ∀ y, y ∈ l → y.Ops.length ≤ 1073741824) : spec_BatchOK.f l = some (batchOK l) := by
  have hl := h.1
  unfold spec_BatchOK.f batchOK
  by_cases hbig : (l.length : Int) > 4096
  · rw [decide_eq_true hbig]
    have : inB (l.length : Int) 1 2 = false := by
      unfold inB; rw [decide_eq_false (show ¬ (l.length : Int) ≤ 2 by omega), Bool.and_false]
    rw [this]; rfl
  rw [decide_eq_false hbig]
  have := loopO_scan (step := fun s => spec_BatchOK.s0 l s) (fun k => (k : Int)) l.length (fun k => txnOK (l.getD k z_Txn)) (b := false) (t := ()) (fun k hk => by
    simp only [spec_BatchOK.s0, l09Txn_eq _ (h.2 _ (getD_mem hk z_Txn)), Option.bind_some, Int.toNat_natCast, decide_eq_true (show (k : Int) < (l.length : Int) by omega), cond_true, if_pos (show (0 : Int) ≤ (k : Int) ∧ (k : Int) < (l.length : Int) by omega)]
    rw [w64_id (by omega) (by omega)]
    cases txnOK (l.getD k z_Txn) <;> rfl) (by
    simp only [spec_BatchOK.s0]
    rw [decide_eq_false (by omega)]; rfl)
  simp only [l01In_eq, Option.bind_some, cond_false]
  rw [show ((0 : Int)) = ((0 : Nat) : Int) from rfl, this, all_range l z_Txn txnOK]
  cases inB (l.length : Int) 1 2 <;> cases l.all txnOK <;> rfl

theorem digits_step (k : Nat) (hk : k ≤ 1000000000000000000) (m : Nat) : spec_l00Digits.g (m + 1) (k : Int) = (if k < 10 then some (strOfNums [48 + (k : Int)]) else (spec_l00Digits.g m ((k / 10 : Nat) : Int)).bind fun y => if y.size + 1 ≤ 1152921504606846976 then some (y ++ strOfNums [48 + ((k % 10 : Nat) : Int)]) else none) := by
  rw [spec_l00Digits.g]
  have e1 : ((k : Int) == (-9223372036854775808)) = false := by rw [beq_eq_false_iff_ne]; omega
  rw [e1, decide_eq_false (show ¬ (k : Int) < 0 by omega)]
  simp only [cond_false]
  by_cases h : k < 10
  · rw [decide_eq_true (show (k : Int) < 10 by omega), if_pos h, w64_id (by omega) (by omega)]
    have : IntKind.wrap .u8 (48 + (k : Int)) = 48 + (k : Int) := by show (48 + (k : Int)) % 256 = _; omega
    rw [this]; rfl
  · rw [decide_eq_false (show ¬ (k : Int) < 10 by omega), if_neg h]
    have e2 : IntKind.wrap .i64 (Int.tdiv (k : Int) 10) = ((k / 10 : Nat) : Int) := by
      rw [Int.tdiv_eq_ediv_of_nonneg (by omega)]
      have : IntKind.wrap .i64 ((k : Int) / 10) = (k : Int) / 10 := w64_id (by omega) (by omega)
      rw [this]; omega
    have e3 : IntKind.wrap .u8 (w64 (48 + Int.tmod (k : Int) 10)) = 48 + ((k % 10 : Nat) : Int) := by
      rw [Int.tmod_eq_emod_of_nonneg (by omega), w64_id (by omega) (by omega)]
      show (48 + (k : Int) % 10) % 256 = _
      omega
    simp only [cond_false, e2, e3, strOfNums_size, List.length_cons, List.length_nil]
theorem digits_uniq (k : Nat) : k ≤ 1000000000000000000 → (∃ N, spec_l00Digits.g N (k : Int) = some (strOfNums (digL k))) ∧ ∀ m r, spec_l00Digits.g m (k : Int) = some r → r = strOfNums (digL k) := by
  induction k using Nat.strongRecOn with
  | ind k ih =>
    intro hk
    by_cases h : k < 10
    · have hd : digL k = [48 + (k : Int)] := by rw [digL, if_pos h]
      refine ⟨⟨1, by rw [digits_step k hk, if_pos h, hd]⟩, fun m r hr => ?_⟩
      cases m with
      | zero => rw [spec_l00Digits.g] at hr; cases hr
      | succ m => rw [digits_step k hk, if_pos h] at hr; cases hr; rw [hd]
    · have hd : digL k = digL (k / 10) ++ [48 + ((k % 10 : Nat) : Int)] := by rw [digL, if_neg h]
      obtain ⟨⟨N, hN⟩, hu⟩ := ih (k / 10) (by omega) (by omega)
      have hsz : (strOfNums (digL (k / 10))).size + 1 ≤ 1152921504606846976 := by
        rw [strOfNums_size]; have := (digL_len (k / 10)).2; omega
      refine ⟨⟨N + 1, by rw [digits_step k hk, if_neg h, hN]; simp only [Option.bind_some]; rw [if_pos hsz, hd, str_append]⟩, fun m r hr => ?_⟩
      cases m with
      | zero => rw [spec_l00Digits.g] at hr; cases hr
      | succ m =>
        rw [digits_step k hk, if_neg h] at hr
        obtain ⟨y, hy, hr⟩ := Option.bind_eq_some_iff.1 hr
        have := hu m y hy
        subst this
        rw [if_pos hsz] at hr
        cases hr
        rw [hd, str_append]
theorem digits_eq (k : Int) (h0 : 0 ≤ k) (h1 : k ≤ 1000000000000000000) : spec_l00Digits.f k = some (strOfNums (digL k.toNat)) := by
  obtain ⟨⟨N, hN⟩, hu⟩ := digits_uniq k.toNat (by omega)
  have e : ((k.toNat : Nat) : Int) = k := by omega
  rw [e] at hN hu
  unfold spec_l00Digits.f
  exact recO_eq N hN hu

theorem encOp_inj {o p : S_Op} {r s : List Int} (ho : opOK o = true) (hp : opOK p = true) (hr : ND r) (hs : ND s) (h : encOp o r = encOp p s) : o = p ∧ r = s := by
  obtain ⟨ok1, ok2, ok3, ok4⟩ := opOK_parts ho
  obtain ⟨pk1, pk2, pk3, pk4⟩ := opOK_parts hp
  have n32 : ¬ isDg 32 := by unfold isDg; omega
  unfold encOp at h
  have key : o.Kind = p.Kind ∧ (digL o.Key.toNat ++ (if o.Kind = 1 ∨ o.Kind = 3 then r else 32 :: (digL o.Value.toNat ++ r))) = (digL p.Key.toNat ++ (if p.Kind = 1 ∨ p.Kind = 3 then s else 32 :: (digL p.Value.toNat ++ s))) := by
    have ho1 : o.Kind = 1 ∨ o.Kind = 2 ∨ o.Kind = 3 ∨ o.Kind = 4 ∨ o.Kind = 5 ∨ o.Kind = 6 := by omega
    have hp1 : p.Kind = 1 ∨ p.Kind = 2 ∨ p.Kind = 3 ∨ p.Kind = 4 ∨ p.Kind = 5 ∨ p.Kind = 6 := by omega
    rcases ho1 with e | e | e | e | e | e <;> rcases hp1 with f | f | f | f | f | f <;> rw [e, f] at h ⊢ <;> simp [wordL] at h ⊢ <;> exact h
  obtain ⟨hk, h2⟩ := key
  rw [hk] at h2
  by_cases hb : p.Kind = 1 ∨ p.Kind = 3
  · rw [if_pos hb, if_pos hb] at h2
    obtain ⟨h3, h4⟩ := dig_inj hr hs h2
    have e1 := ok4 (hk ▸ hb)
    have e2 := pk4 hb
    refine ⟨?_, h4⟩
    obtain ⟨a, b, c⟩ := o
    obtain ⟨a', b', c'⟩ := p
    simp only at *
    have : b = b' := by omega
    rw [hk, this, e1, e2]
  · rw [if_neg hb, if_neg hb] at h2
    obtain ⟨h3, h4⟩ := dig_inj (ND_cons n32) (ND_cons n32) h2
    simp only [List.cons.injEq, true_and] at h4
    obtain ⟨h5, h6⟩ := dig_inj hr hs h4
    refine ⟨?_, h6⟩
    obtain ⟨a, b, c⟩ := o
    obtain ⟨a', b', c'⟩ := p
    simp only at *
    have : b = b' := by omega
    have : c = c' := by omega
    subst hk; subst b; subst c; rfl
theorem wordL_isB (k : Int) : isB (wordL k) := by
  unfold wordL isB
  repeat' split
  all_goals intro b hb; simp at hb; omega
theorem encOp_isB (o : S_Op) : isB (encOp o []) := by
  intro b hb
  unfold encOp at hb
  split at hb
  · simp only [List.mem_append, List.mem_cons, List.not_mem_nil, or_false] at hb
    rcases hb with hb | rfl | hb
    · exact wordL_isB _ b hb
    · omega
    · exact digL_isB _ b hb
  · simp only [List.mem_append, List.mem_cons, List.not_mem_nil, or_false] at hb
    rcases hb with hb | rfl | hb | rfl | hb
    · exact wordL_isB _ b hb
    · omega
    · exact digL_isB _ b hb
    · omega
    · exact digL_isB _ b hb
theorem l09Op_eq (o : S_Op) (ho : opOK o = true) : spec_l09Op.f o = some (strOfNums (encOp o [])) := by
  obtain ⟨ok1, ok2, ok3, ok4⟩ := opOK_parts ho
  have h1 := (digL_len o.Key.toNat).2
  have h2 := (digL_len o.Value.toNat).2
  unfold spec_l09Op.f spec_l09Words.f
  simp only [Option.bind_some]
  rw [if_pos (by simp; omega), digits_eq o.Key (by omega) (by omega)]
  simp only [Option.bind_some]
  have hword : ([(⟨#[]⟩ : ByteArray), (⟨#[103, 101, 116]⟩ : ByteArray), (⟨#[112, 117, 116]⟩ : ByteArray), (⟨#[100, 114, 111, 112]⟩ : ByteArray), (⟨#[99, 104, 101, 99, 107]⟩ : ByteArray), (⟨#[97, 100, 100]⟩ : ByteArray), (⟨#[115, 99, 97, 110]⟩ : ByteArray)].getD o.Kind.toNat ByteArray.empty) = strOfNums (wordL o.Kind) := by
    have ho1 : o.Kind = 1 ∨ o.Kind = 2 ∨ o.Kind = 3 ∨ o.Kind = 4 ∨ o.Kind = 5 ∨ o.Kind = 6 := by omega
    rcases ho1 with e | e | e | e | e | e <;> rw [e] <;> rfl
  have h32 : (⟨#[32]⟩ : ByteArray) = strOfNums [32] := rfl
  have hw := wordL_len o.Kind
  rw [hword, h32, ← str_append, ← str_append]
  simp only [strOfNums_size, List.length_append, List.length_cons, List.length_nil]
  rw [if_pos (by omega), if_pos (by omega)]
  by_cases hb : o.Kind = 1 ∨ o.Kind = 3
  · have hu : ((bif (o.Kind != 1) then (some (o.Kind != 3)) else (some false)) : Option Bool) = some false := by
      rcases hb with e | e <;> rw [e] <;> rfl
    simp only [hu, Option.bind_some, cond_false]
    unfold encOp
    rw [if_pos hb]; simp
  · have hu : ((bif (o.Kind != 1) then (some (o.Kind != 3)) else (some false)) : Option Bool) = some true := by
      have a1 : (o.Kind != 1) = true := by simp; omega
      have a3 : (o.Kind != 3) = true := by simp; omega
      rw [a1, a3]; rfl
    simp only [hu, Option.bind_some, cond_true, digits_eq o.Value (by omega) (by omega)]
    rw [if_pos (by simp only [strOfNums_size]; omega), ← str_append, ← str_append]
    rw [if_pos (by simp only [strOfNums_size, List.length_append, List.length_cons, List.length_nil]; omega)]
    unfold encOp
    rw [if_neg hb]; simp

theorem join_eq (sep : List Int) (l : List (List Int)) (hs : sep.length ≤ 10) (hl : l.length ≤ 1000) (hb : ∀ a ∈ l, a.length ≤ 100000000) : spec_l00Join.f (l.map strOfNums) (strOfNums sep) = some (strOfNums (joinL sep l)) := by
  unfold spec_l00Join.f
  have hz : strOfNums [] = (⟨#[]⟩ : ByteArray) := rfl
  have hgrow : ∀ k, k ≤ l.length → (joinL sep (l.take k)).length ≤ k * 100000010 := by
    intro k
    induction k with
    | zero => intro _; simp [joinL]
    | succ k ih =>
      intro hk
      have ih' := ih (by omega)
      have ht : l.take (k + 1) = l.take k ++ [l.getD k []] := by
        rw [List.take_add_one, List.getD_eq_getElem?_getD, List.getElem?_eq_getElem (show k < l.length by omega)]; rfl
      have hg := hb _ (getD_mem (show k < l.length by omega) [])
      rw [ht, joinL_snoc]
      split
      · omega
      · simp only [List.length_append]; omega
  have := loopO_run (step := fun s : ByteArray × Int => spec_l00Join.s0 (l.map strOfNums) (strOfNums sep) s.1 s.2) (fun k => (strOfNums (joinL sep (l.take k)), (k : Int))) l.length (r := .out (strOfNums (joinL sep l))) (fun k hk => by
    have ht : l.take (k + 1) = l.take k ++ [l.getD k []] := by
      rw [List.take_add_one, List.getD_eq_getElem?_getD, List.getElem?_eq_getElem (show k < l.length by omega)]; rfl
    have hg := hb _ (getD_mem hk [])
    have hgr := hgrow k (by omega)
    have hget : (l.map strOfNums).getD k ByteArray.empty = strOfNums (l.getD k []) := by
      rw [List.getD_eq_getElem?_getD, List.getElem?_map, List.getD_eq_getElem?_getD, List.getElem?_eq_getElem hk]; rfl
    have hkb : k * 100000010 ≤ 1000 * 100000010 := Nat.mul_le_mul_right _ (by omega)
    simp only [spec_l00Join.s0, List.length_map, decide_eq_true (show (k : Int) < (l.length : Int) by omega), cond_true, if_pos (show (0 : Int) ≤ (k : Int) ∧ (k : Int) < (l.length : Int) by omega), Int.toNat_natCast, hget]
    rw [w64_id (by omega) (by omega), ht, joinL_snoc]
    by_cases h0 : k = 0
    · subst h0
      simp only [List.take_zero, if_true, joinL]
      rw [decide_eq_false (by omega)]
      simp only [cond_false, Option.bind_some]
      have z3 : (strOfNums ([] : List Int)).size + (strOfNums (l.getD 0 [])).size ≤ 1152921504606846976 := by
        rw [strOfNums_size, strOfNums_size, List.length_nil]
        exact Nat.le_trans (Nat.le_of_eq (Nat.zero_add _)) (Nat.le_trans hg (by decide))
      simp only [if_pos z3, ← str_append, List.nil_append]
      rfl
    · have hne : ¬ l.take k = [] := fun e => by
        have := congrArg List.length e
        simp only [List.length_take, List.length_nil] at this
        omega
      rw [decide_eq_true (show (k : Int) > 0 by omega), if_neg hne]
      simp only [cond_true]
      have z1 : (strOfNums (joinL sep (l.take k))).size + (strOfNums sep).size ≤ 1152921504606846976 := by simp only [strOfNums_size]; omega
      have z2 : (strOfNums (joinL sep (l.take k)) ++ strOfNums sep).size + (strOfNums (l.getD k [])).size ≤ 1152921504606846976 := by simp only [ByteArray.size_append, strOfNums_size]; omega
      simp only [if_pos z1, Option.bind_some, if_pos z2, str_append, List.append_assoc, ByteArray.append_assoc]
      rfl) (by
    simp only [spec_l00Join.s0, List.length_map]
    rw [decide_eq_false (by omega), List.take_length]; rfl)
  have this2 : loopO (fun s : ByteArray × Int => spec_l00Join.s0 (l.map strOfNums) (strOfNums sep) s.1 s.2) ((⟨#[]⟩ : ByteArray), 0) = _ := this
  rw [this2]; rfl

theorem txnText_run (L : List S_Txn) (j : Nat) (hj : j < L.length) (ht : txnOK (L.getD j z_Txn) = true) : (loopO (fun s : List ByteArray × Int => spec_l09Text.s1 L (j : Int) s.1 s.2) (([] : List ByteArray), 0)) = some (.out (((L.getD j z_Txn).Ops.map fun o => encOp o []).map strOfNums)) := by
  unfold txnOK at ht
  simp only [Bool.and_eq_true] at ht
  have hn := inB_iff.1 ht.2
  generalize hO : (L.getD j z_Txn).Ops = O at ht hn
  have := loopO_run (step := fun s : List ByteArray × Int => spec_l09Text.s1 L (j : Int) s.1 s.2) (fun k => (((O.take k).map fun o => encOp o []).map strOfNums, (k : Int))) O.length (r := .out ((O.map fun o => encOp o []).map strOfNums)) (fun k hk => by
    have hT : O.take (k + 1) = O.take k ++ [O.getD k z_Op] := by
      rw [List.take_add_one, List.getD_eq_getElem?_getD, List.getElem?_eq_getElem hk]; rfl
    have hok := List.all_eq_true.1 ht.1 _ (getD_mem hk z_Op)
    simp only [spec_l09Text.s1, if_pos (show (0 : Int) ≤ (j : Int) ∧ (j : Int) < (L.length : Int) by omega), Int.toNat_natCast, hO, decide_eq_true (show (k : Int) < (O.length : Int) by omega), cond_true, if_pos (show (0 : Int) ≤ (k : Int) ∧ (k : Int) < (O.length : Int) by omega), l09Op_eq _ hok, Option.bind_some]
    rw [if_pos (by simp; omega), w64_id (by omega) (by omega), hT]
    simp) (by
    simp only [spec_l09Text.s1, if_pos (show (0 : Int) ≤ (j : Int) ∧ (j : Int) < (L.length : Int) by omega), Int.toNat_natCast, hO]
    rw [decide_eq_false (by omega), List.take_length]; rfl)
  exact this
theorem l09Text_eq (L : List S_Txn) (h : batchOK L = true) : spec_l09Text.f L = some (strOfNums (encB L)) := by
  obtain ⟨n1, n2, hT⟩ := batchOK_parts h
  unfold spec_l09Text.f
  have h59 : (⟨#[59, 32]⟩ : ByteArray) = strOfNums [59, 32] := rfl
  have h124 : (⟨#[32, 124, 32]⟩ : ByteArray) = strOfNums [32, 124, 32] := rfl
  have := loopO_run (step := fun s : List ByteArray × Int => spec_l09Text.s0 L s.1 s.2) (fun k => (((L.take k).map fun t => encOps t.Ops []).map strOfNums, (k : Int))) L.length (r := .out ((L.map fun t => encOps t.Ops []).map strOfNums)) (fun k hk => by
    have hTk : L.take (k + 1) = L.take k ++ [L.getD k z_Txn] := by
      rw [List.take_add_one, List.getD_eq_getElem?_getD, List.getElem?_eq_getElem hk]; rfl
    obtain ⟨t1, t2, t3, t4⟩ := hT _ (getD_mem hk z_Txn)
    have hj := join_eq [59, 32] ((L.getD k z_Txn).Ops.map fun o => encOp o []) (by decide) (by simp only [List.length_map]; omega) (fun a ha => by
      obtain ⟨o, ho, rfl⟩ := List.mem_map.1 ha
      have := encOp_len (List.all_eq_true.1 t4 o ho); omega)
    rw [← encOps_join] at hj
    simp only [spec_l09Text.s0, decide_eq_true (show (k : Int) < (L.length : Int) by omega), cond_true, txnText_run L k hk t1, Option.bind_some, h59, hj]
    rw [if_pos (by simp; omega), w64_id (by omega) (by omega), hTk]
    simp) (by
    simp only [spec_l09Text.s0]
    rw [decide_eq_false (by omega), List.take_length]; rfl)
  have this2 : loopO (fun s : List ByteArray × Int => spec_l09Text.s0 L s.1 s.2) (([] : List ByteArray), 0) = _ := this
  rw [this2, h124]
  simp only [Option.bind_some]
  rw [join_eq [32, 124, 32] (L.map fun t => encOps t.Ops []) (by decide) (by simp only [List.length_map]; omega) (fun a ha => by
    obtain ⟨t, ht, rfl⟩ := List.mem_map.1 ha
    obtain ⟨t1, t2, t3, t4⟩ := hT t ht
    have := encOps_len t.Ops t3 t4; omega), ← encB_join]
  rfl

theorem samef_slices_EqualFunc_impl_Txn_impl_Txn_impl_Txn_impl_Txn (a b : List S_Txn) (q : S_Txn → S_Txn → Option Bool) (p : S_Txn → S_Txn → Bool) (h : a.length ≤ 1073741824) (hq : ∀ x y, x ∈ a → y ∈ b → q x y = some (p x y)) : slices_EqualFunc_impl_Txn_impl_Txn_impl_Txn_impl_Txn.f a b q = some (sameL z_Txn p a b) := by
  unfold slices_EqualFunc_impl_Txn_impl_Txn_impl_Txn_impl_Txn.f sameL
  by_cases hl : (a.length : Int) = (b.length : Int)
  · rw [show ((a.length : Int) != (b.length : Int)) = false from by rw [hl]; simp, show ((a.length : Int) == (b.length : Int)) = true from by rw [hl]; simp]
    have := loopO_scan (step := fun s => slices_EqualFunc_impl_Txn_impl_Txn_impl_Txn_impl_Txn.s0 a b q s) (fun k => (k : Int)) a.length (fun k => p (a.getD k z_Txn) (b.getD k z_Txn)) (b := false) (t := ()) (fun k hk => by
      simp only [slices_EqualFunc_impl_Txn_impl_Txn_impl_Txn_impl_Txn.s0, decide_eq_true (show (k : Int) < (a.length : Int) by omega), cond_true, if_pos (show (0 : Int) ≤ (k : Int) ∧ (k : Int) < (a.length : Int) by omega), if_pos (show (0 : Int) ≤ (k : Int) ∧ (k : Int) < (b.length : Int) by omega), Int.toNat_natCast, hq _ _ (getD_mem hk _) (getD_mem (l := b) (show k < b.length by omega) _), Option.bind_some]
      rw [w64_id (by omega) (by omega)]
      cases p (a.getD k z_Txn) (b.getD k z_Txn) <;> rfl) (by
      simp only [slices_EqualFunc_impl_Txn_impl_Txn_impl_Txn_impl_Txn.s0]
      rw [decide_eq_false (by omega)]; rfl)
    rw [show ((0 : Int)) = ((0 : Nat) : Int) from rfl, this]
    cases (List.range a.length).all (fun k => p (a.getD k z_Txn) (b.getD k z_Txn)) <;> rfl
  · rw [show ((a.length : Int) != (b.length : Int)) = true from by simpa using hl, show ((a.length : Int) == (b.length : Int)) = false from by simpa using hl]
    rfl

theorem same_slices_Equal_impl_Op_impl_Op (a b : List S_Op) (h : a.length ≤ 1073741824) : slices_Equal_impl_Op_impl_Op.f a b = some (sameL z_Op (fun x y => ((x.Kind == y.Kind) && ((x.Key == y.Key) && ((x.Value == y.Value) && true)))) a b) := by
  unfold slices_Equal_impl_Op_impl_Op.f sameL
  by_cases hl : (a.length : Int) = (b.length : Int)
  · rw [show ((a.length : Int) != (b.length : Int)) = false from by rw [hl]; simp, show ((a.length : Int) == (b.length : Int)) = true from by rw [hl]; simp]
    have := loopO_scan (step := fun s => slices_Equal_impl_Op_impl_Op.s0 a b s) (fun k => (k : Int)) a.length (fun k => (fun x y => ((x.Kind == y.Kind) && ((x.Key == y.Key) && ((x.Value == y.Value) && true)))) (a.getD k z_Op) (b.getD k z_Op)) (b := false) (t := ()) (fun k hk => by
      simp only [slices_Equal_impl_Op_impl_Op.s0, decide_eq_true (show (k : Int) < (a.length : Int) by omega), cond_true, if_pos (show (0 : Int) ≤ (k : Int) ∧ (k : Int) < (a.length : Int) by omega), if_pos (show (0 : Int) ≤ (k : Int) ∧ (k : Int) < (b.length : Int) by omega), Int.toNat_natCast]
      rw [w64_id (by omega) (by omega)]
      try simp only [bne]
      cases (((a.getD k z_Op).Kind == (b.getD k z_Op).Kind) && (((a.getD k z_Op).Key == (b.getD k z_Op).Key) && (((a.getD k z_Op).Value == (b.getD k z_Op).Value) && true))) <;> rfl) (by
      simp only [slices_Equal_impl_Op_impl_Op.s0]
      rw [decide_eq_false (by omega)]; rfl)
    rw [show ((0 : Int)) = ((0 : Nat) : Int) from rfl, this]
    cases (List.range a.length).all (fun k => (fun x y => ((x.Kind == y.Kind) && ((x.Key == y.Key) && ((x.Value == y.Value) && true)))) (a.getD k z_Op) (b.getD k z_Op)) <;> rfl
  · rw [show ((a.length : Int) != (b.length : Int)) = true from by simpa using hl, show ((a.length : Int) == (b.length : Int)) = false from by simpa using hl]
    rfl

/-- A loop that takes what each word tells, and ends where one tells nothing. -/
theorem collect {α ρ σ : Type} (l : List ByteArray) (p : ByteArray → α × Bool) (bad : ρ) (mk : Nat → List α → σ) (idx : σ → Nat) (hidx : ∀ k u, idx (mk k u) = k) (step : σ → Option (σ ⊕ Ex (List α) ρ))
    (hin : ∀ k, k < l.length → ∀ u : List α, u.length = k → step (mk k u) = some (bif (p (l.getD k ByteArray.empty)).2 then .inl (mk (k + 1) (u ++ [(p (l.getD k ByteArray.empty)).1])) else .inr (.ret bad)))
    (hout : ∀ u, step (mk l.length u) = some (.inr (.out u))) :
    loopO step (mk 0 []) = some (bif l.all (fun w => (p w).2) then .out (l.map (fun w => (p w).1)) else .ret bad) := by
  obtain ⟨r, h1, h2⟩ := loopO_wf (step := step)
    (fun s => ∃ k : Nat, k ≤ l.length ∧ s = mk k ((l.take k).map (fun w => (p w).1)) ∧ ∀ w ∈ l.take k, (p w).2 = true)
    (fun r => (r = .out (l.map (fun w => (p w).1)) ∧ ∀ w ∈ l, (p w).2 = true) ∨ (r = .ret bad ∧ ∃ w ∈ l, (p w).2 = false)) (fun s => l.length - idx s) (fun s hI => by
      obtain ⟨k, hk, rfl, hall⟩ := hI
      by_cases c : k < l.length
      · have hm := getD_mem c ByteArray.empty
        rw [hin k c _ (by simp only [List.length_map, List.length_take]; omega)]
        cases hb : (p (l.getD k ByteArray.empty)).2
        · exact .inr ⟨_, rfl, .inr ⟨rfl, _, hm, hb⟩⟩
        · refine .inl ⟨_, rfl, ⟨k + 1, by omega, ?_, fun w hw => ?_⟩, by rw [hidx, hidx]; omega⟩
          · rw [take_snoc l k c ByteArray.empty, List.map_append]; rfl
          · rw [take_snoc l k c ByteArray.empty] at hw
            rcases List.mem_append.1 hw with hw | hw
            · exact hall w hw
            · rw [List.mem_singleton.1 hw]; exact hb
      · obtain rfl : k = l.length := by omega
        rw [hout]
        rw [List.take_length] at hall ⊢
        exact .inr ⟨_, rfl, .inl ⟨rfl, hall⟩⟩) _ (mk 0 []) (Nat.le_refl _) ⟨0, Nat.zero_le _, rfl, by simp⟩
  rw [h1]
  rcases h2 with ⟨rfl, ha⟩ | ⟨rfl, w, hw, hb⟩
  · rw [List.all_eq_true.2 ha]; rfl
  · have : l.all (fun w => (p w).2) = false := List.all_eq_false.2 ⟨w, hw, by rw [hb]; decide⟩
    rw [this]; rfl

/-! A text cut at a sign. -/
def spc (d : Int) : List Int → List (List Int)
  | [] => [[]]
  | c :: r => if c = d then [] :: spc d r else match spc d r with
    | [] => [[c]]
    | w :: ws => (c :: w) :: ws
theorem spc_word (d : Int) (r : List Int) : ∀ w : List Int, (∀ x ∈ w, x ≠ d) → spc d (w ++ d :: r) = w :: spc d r
  | [], _ => by simp [spc]
  | c :: w, h => by
    rw [List.cons_append, spc, if_neg (h c (List.mem_cons_self ..)), spc_word d r w (fun x hx => h x (List.mem_cons_of_mem _ hx))]
theorem spc_last (d : Int) : ∀ w : List Int, (∀ x ∈ w, x ≠ d) → spc d w = [w]
  | [], _ => rfl
  | c :: w, h => by rw [spc, if_neg (h c (List.mem_cons_self ..)), spc_last d w (fun x hx => h x (List.mem_cons_of_mem _ hx))]
theorem spc_len (d : Int) : ∀ (l : List Int), ∀ w ∈ spc d l, w.length ≤ l.length
  | [], w, h => by simp [spc] at h; subst h; simp
  | c :: r, w, h => by
    rw [spc] at h
    split at h
    · rcases List.mem_cons.1 h with rfl | h
      · simp
      · have := spc_len d r w h; rw [List.length_cons]; omega
    · split at h
      · simp at h; subst h; simp
      · rename_i w0 ws e
        rcases List.mem_cons.1 h with rfl | h
        · have := spc_len d r w0 (by rw [e]; exact List.mem_cons_self ..)
          simp only [List.length_cons]; omega
        · have := spc_len d r w (by rw [e]; exact List.mem_cons_of_mem _ h)
          rw [List.length_cons]; omega
theorem u8_of (b c : UInt8) : ((b.toNat : Int) = (c.toNat : Int)) ↔ b = c := by
  constructor
  · intro h
    have : b.toNat = c.toNat := by omega
    exact UInt8.toNat_inj.1 this
  · rintro rfl; rfl
theorem sign_miss (c : UInt8) (s : ByteArray) (h : Lib.indexB s (⟨#[c]⟩ : ByteArray) = -1) : ∀ x ∈ bytesOf s, x ≠ (c.toNat : Int) := by
  have h2 : Lib.indexByte s.data.toList c = -1 := (Lib.index_one s.data.toList c).symm.trans h
  intro x hx e
  obtain ⟨b, hb, rfl⟩ := List.mem_map.1 hx
  obtain ⟨k, hk, rfl⟩ := List.mem_iff_getElem.1 hb
  exact Lib.indexByte_none h2 k (by rw [List.getElem?_eq_getElem hk, (u8_of _ _).1 e])
theorem sign_hit (c : UInt8) (s : ByteArray) (i : Nat) (h : Lib.indexB s (⟨#[c]⟩ : ByteArray) = i) : bytesOf s = (bytesOf s).take i ++ (c.toNat : Int) :: (bytesOf s).drop (i + 1) ∧ ∀ x ∈ (bytesOf s).take i, x ≠ (c.toNat : Int) := by
  have h2 : Lib.indexByte s.data.toList c = i := (Lib.index_one s.data.toList c).symm.trans h
  obtain ⟨h3, h4⟩ := Lib.indexByte_some h2
  have hb : (bytesOf s)[i]? = some (c.toNat : Int) := by unfold bytesOf; rw [List.getElem?_map, h3]; rfl
  obtain ⟨hi, he⟩ := List.getElem?_eq_some_iff.1 hb
  refine ⟨?_, fun x hx e => ?_⟩
  · conv => lhs; rw [← List.take_append_drop i (bytesOf s), List.drop_eq_getElem_cons hi, he]
  · obtain ⟨k, hk, rfl⟩ := List.mem_iff_getElem.1 hx
    rw [List.length_take] at hk
    rw [List.getElem_take] at e
    have hk2 : k < s.data.toList.length := by have : (bytesOf s).length = s.data.toList.length := by simp [bytesOf]
                                              omega
    refine h4 k (by omega) ?_
    rw [List.getElem?_eq_getElem hk2]
    have : (bytesOf s)[k] = ((s.data.toList[k]).toNat : Int) := by simp [bytesOf]
    rw [this] at e
    rw [(u8_of _ _).1 e]
theorem splitB_spc (c : UInt8) : ∀ (k : Nat) (s : ByteArray), Lib.countB s (⟨#[c]⟩ : ByteArray) = k → (Lib.splitB (⟨#[c]⟩ : ByteArray) 0 k s).map bytesOf = spc (c.toNat : Int) (bytesOf s)
  | 0, s, hk => by
    rcases Lib.indexB_cases s (⟨#[c]⟩ : ByteArray) with hix | ⟨i, hix, _⟩
    · rw [Lib.splitB_zero, spc_last _ _ (sign_miss c s hix)]; rfl
    · have := Lib.countB_hit s (⟨#[c]⟩ : ByteArray) i (Nat.le_refl 1) hix
      omega
  | k + 1, s, hk => by
    rcases Lib.indexB_cases s (⟨#[c]⟩ : ByteArray) with hix | ⟨i, hix, hroom⟩
    · rw [Lib.countB_miss s _ hix] at hk; omega
    · have hc := Lib.countB_hit s (⟨#[c]⟩ : ByteArray) i (Nat.le_refl 1) hix
      obtain ⟨h1, h2⟩ := sign_hit c s i hix
      have hl := bytesOf_len s
      have h1s : (⟨#[c]⟩ : ByteArray).size = 1 := rfl
      rw [h1s] at hroom
      have ih := splitB_spc c k (s.extract (i + (⟨#[c]⟩ : ByteArray).size) s.size) (by omega)
      rw [Lib.splitB_hit _ 0 k s i hix, List.map_cons, ih, bytesOf_extract, bytesOf_extract, h1s]
      conv => rhs; rw [h1, spc_word _ _ _ h2]
      rw [List.take_of_length_le (l := (bytesOf s).drop (i + 1)) (by rw [List.length_drop]; omega)]
      simp
theorem split_eqc (c : UInt8) (x : ByteArray) (hx : x.size ≤ 1048576) : ∃ l, strings_Split.f x (⟨#[c]⟩ : ByteArray) = some l ∧ l.map bytesOf = spc (c.toNat : Int) (bytesOf x) ∧ l.length ≤ 1048577 ∧ ∀ w ∈ l, w.size ≤ 1048576 := by
  unfold strings_Split.f
  rw [if_pos ⟨by omega, Nat.le_refl 1⟩]
  have e := splitB_spc c _ x rfl
  refine ⟨_, rfl, e, ?_, fun w hm => ?_⟩
  · rw [Lib.splitB_all (⟨#[c]⟩ : ByteArray) (Nat.le_refl 1) 0 _ x rfl]
    have := Lib.countB_le (⟨#[c]⟩ : ByteArray) (Nat.le_refl 1) x.size x (Nat.le_refl _)
    omega
  · have := spc_len _ (bytesOf x) (bytesOf w) (by rw [← e]; exact List.mem_map.2 ⟨w, hm, rfl⟩)
    rw [bytesOf_len, bytesOf_len] at this
    omega

end Go.Proofs.YtfjhdkmdidadiaaGreatDoor
