/- What the models of these functions come to. -/
import Derived.Test.YtfjhdkmdidadiaaGreatDoorP0
import Derived.Test.YtfjhdkmdidadiaaGreatDoorGXReadBatchn1
namespace Go.Proofs.YtfjhdkmdidadiaaGreatDoor
open Go Go.Z Go.Proofs Go.MuLone Go.ChangeShapes Go.WideShapes Go.ChangeAt Go.RowKit
set_option linter.unusedVariables false
set_option linter.unusedSimpArgs false
def opOK (o : S_Op) : Bool :=
  inB o.Kind 1 6 && inB o.Key 1 9999 && (bif o.Kind == 1 || o.Kind == 3 then o.Value == 0 else bif o.Kind == 6 then inB o.Value 1 4 else inB o.Value 0 999999)

def wordL (k : Int) : List Int := if k = 1 then [103, 101, 116] else if k = 2 then [112, 117, 116] else if k = 3 then [100, 114, 111, 112] else if k = 4 then [99, 104, 101, 99, 107] else if k = 5 then [97, 100, 100] else [115, 99, 97, 110]
def encOp (o : S_Op) (r : List Int) : List Int := wordL o.Kind ++ (32 :: (digL o.Key.toNat ++ (if o.Kind = 1 ∨ o.Kind = 3 then r else 32 :: (digL o.Value.toNat ++ r))))
theorem encOp_app (o : S_Op) (r : List Int) : encOp o r = encOp o [] ++ r := by
  unfold encOp
  split <;> simp
theorem ND_cons {x : Int} {r : List Int} (h : ¬ isDg x) : ND (x :: r) := fun y s e => by cases e; exact h
theorem opOK_parts {o : S_Op} (h : opOK o = true) : (1 ≤ o.Kind ∧ o.Kind ≤ 6) ∧ (1 ≤ o.Key ∧ o.Key ≤ 9999) ∧ (0 ≤ o.Value ∧ o.Value ≤ 999999) ∧ ((o.Kind = 1 ∨ o.Kind = 3) → o.Value = 0) := by
  unfold opOK at h
  simp only [Bool.and_eq_true] at h
  obtain ⟨⟨h1, h2⟩, h3⟩ := h
  have h1' := inB_iff.1 h1
  have h2' := inB_iff.1 h2
  by_cases hb : o.Kind = 1 ∨ o.Kind = 3
  · have : (o.Kind == 1 || o.Kind == 3) = true := by simpa using hb
    rw [this] at h3
    simp only [cond_true, beq_iff_eq] at h3
    exact ⟨h1', h2', by omega, fun _ => h3⟩
  · have : (o.Kind == 1 || o.Kind == 3) = false := by simpa using hb
    rw [this] at h3
    simp only [cond_false] at h3
    by_cases h6 : o.Kind = 6
    · rw [show (o.Kind == 6) = true from by simpa using h6] at h3
      have := inB_iff.1 h3
      exact ⟨h1', h2', by omega, fun h => absurd h hb⟩
    · rw [show (o.Kind == 6) = false from by simpa using h6] at h3
      have := inB_iff.1 h3
      exact ⟨h1', h2', by omega, fun h => absurd h hb⟩
theorem wordL_len (k : Int) : (wordL k).length ≤ 5 := by
  unfold wordL
  (repeat' split) <;> simp

def encOps : List S_Op → List Int → List Int
  | [], r => r
  | [o], r => encOp o r
  | o :: p :: l, r => encOp o (59 :: 32 :: encOps (p :: l) r)
def encB : List S_Txn → List Int
  | [] => []
  | [t] => encOps t.Ops []
  | t :: u :: l => encOps t.Ops (32 :: 124 :: 32 :: encB (u :: l))
theorem encOps_app : ∀ (l : List S_Op) (r : List Int), encOps l r = encOps l [] ++ r
  | [], r => by simp [encOps]
  | [o], r => encOp_app o r
  | o :: p :: l, r => by
    have ih := encOps_app (p :: l) r
    simp only [encOps]
    rw [encOp_app o (59 :: 32 :: encOps (p :: l) r), encOp_app o (59 :: 32 :: encOps (p :: l) []), ih]
    simp
theorem encOps_join : ∀ l : List S_Op, encOps l [] = joinL [59, 32] (l.map fun o => encOp o [])
  | [] => rfl
  | [o] => rfl
  | o :: p :: l => by
    have ih := encOps_join (p :: l)
    simp only [encOps, List.map_cons, joinL] at ih ⊢
    rw [encOp_app, ih]
    simp
theorem encB_join : ∀ l : List S_Txn, encB l = joinL [32, 124, 32] (l.map fun t => encOps t.Ops [])
  | [] => rfl
  | [t] => rfl
  | t :: u :: l => by
    have ih := encB_join (u :: l)
    simp only [encB, List.map_cons, joinL] at ih ⊢
    rw [encOps_app, ih]
    simp
theorem ND_nil : ND [] := fun x r h => by cases h

def TxnR (t : S_Txn) : Prop := t.Ops.length ≤ 4 ∧ ∀ o ∈ t.Ops, opOK o = true
def txnOK (t : S_Txn) : Bool := t.Ops.all opOK && inB t.Ops.length 1 4
def batchOK (l : List S_Txn) : Bool := inB l.length 1 2 && l.all txnOK
theorem batchOK_parts {l : List S_Txn} (h : batchOK l = true) : 1 ≤ l.length ∧ l.length ≤ 2 ∧ ∀ t ∈ l, txnOK t = true ∧ 1 ≤ t.Ops.length ∧ t.Ops.length ≤ 4 ∧ t.Ops.all opOK = true := by
  unfold batchOK at h
  simp only [Bool.and_eq_true] at h
  have hn := inB_iff.1 h.1
  refine ⟨by omega, by omega, fun t ht => ?_⟩
  have h2 := List.all_eq_true.1 h.2 t ht
  have h3 := h2
  unfold txnOK at h3
  simp only [Bool.and_eq_true] at h3
  have := inB_iff.1 h3.2
  exact ⟨h2, by omega, by omega, h3.1⟩
def opI (L : List Int) (s : Nat × Bool) : S_Op × (Nat × Bool) := (⟨(nI L 1 6 s).1, (nI L 1 9999 (nI L 1 6 s).2).1, (nI L 0 999999 (nI L 1 9999 (nI L 1 6 s).2).2).1⟩, (nI L 0 999999 (nI L 1 9999 (nI L 1 6 s).2).2).2)
def opS (L : List Int) (q : Nat) : S_Op × Nat := (⟨(nS L q).1, (nS L (nS L q).2).1, (nS L (nS L (nS L q).2).2).1⟩, (nS L (nS L (nS L q).2).2).2)
def rngO (b : S_Op) : Bool := inB b.Kind 1 6 && inB b.Key 1 9999 && inB b.Value 0 999999
theorem op_pair (L : List Int) : RPair L (opI L) (opS L) rngO :=
  RPair.seq (α := Int × Int) (RPair.seq (RPair.base L 1 6 (by decide)) (RPair.base L 1 9999 (by decide)) Prod.mk (fun ab => inB ab.1 1 6 && inB ab.2 1 9999) (fun _ _ => rfl)) (RPair.base L 0 999999 (by decide)) (fun ab c => ⟨ab.1, ab.2, c⟩) rngO (fun _ _ => rfl)
theorem opS_le {L : List Int} {q : Nat} (h : q ≤ L.length + 1) : (opS L q).2 ≤ L.length + 1 := nS_le (nS_le (nS_le h))
def txI (L : List Int) (s : Nat × Bool) : S_Txn × (Nat × Bool) := (⟨(rep (opI L) (nI L 1 4 s).1.toNat (nI L 1 4 s).2).1⟩, (rep (opI L) (nI L 1 4 s).1.toNat (nI L 1 4 s).2).2)
def txS (L : List Int) (q : Nat) : S_Txn × Nat := (⟨(rep (opS L) (cS L 4 q).1.toNat (cS L 4 q).2).1⟩, (rep (opS L) (cS L 4 q).1.toNat (cS L 4 q).2).2)
def rngT (t : S_Txn) : Bool := inB (t.Ops.length : Int) 1 4 && t.Ops.all rngO
theorem tx_pair (L : List Int) : RPair L (txI L) (txS L) rngT := RPair.count (op_pair L) 4 (fun l => (⟨l⟩ : S_Txn)) rngT (by decide) (fun _ => rfl)
theorem txS_le {L : List Int} {q : Nat} (h : q ≤ L.length + 1) : (txS L q).2 ≤ L.length + 1 := rep_le (f := opS L) (fun q hq => opS_le hq) _ _ (cS_le h)
def enI (L : List Int) (s : Nat × Bool) : (List Int × List S_Txn) × (Nat × Bool) :=
  (((rep (nI L 0 7) 40 s).1, (rep (txI L) (nI L 1 2 (rep (nI L 0 7) 40 s).2).1.toNat (nI L 1 2 (rep (nI L 0 7) 40 s).2).2).1), (rep (txI L) (nI L 1 2 (rep (nI L 0 7) 40 s).2).1.toNat (nI L 1 2 (rep (nI L 0 7) 40 s).2).2).2)
def enS (L : List Int) (q : Nat) : (List Int × List S_Txn) × Nat :=
  (((rep (nS L) 40 q).1, (rep (txS L) (cS L 2 (rep (nS L) 40 q).2).1.toNat (cS L 2 (rep (nS L) 40 q).2).2).1), (rep (txS L) (cS L 2 (rep (nS L) 40 q).2).1.toNat (cS L 2 (rep (nS L) 40 q).2).2).2)
def rngE (x : List Int × List S_Txn) : Bool := x.1.all (fun y => inB y 0 7) && (inB (x.2.length : Int) 1 2 && x.2.all rngT)
theorem en_pair (L : List Int) : RPair L (enI L) (enS L) rngE :=
  RPair.seq ((RPair.base L 0 7 (by decide)).reps 40) (RPair.count (tx_pair L) 2 (fun l => l) (fun l => inB (l.length : Int) 1 2 && l.all rngT) (by decide) (fun _ => rfl)) Prod.mk rngE (fun _ _ => rfl)
theorem txI_len (L : List Int) (s : Nat × Bool) : (txI L s).1.Ops.length ≤ 4 := by
  have := nI_cnt L 4 (by decide) s 1 (by decide)
  unfold txI; simp only [rep_len]; omega
theorem txS_len (L : List Int) (q : Nat) : (txS L q).1.Ops.length ≤ 4 := by
  have := cS_cnt L 4 (by decide) q
  unfold txS; simp only [rep_len]; omega

def opInts (l : List S_Op) : List Int := l.flatMap (fun o => [o.Kind, o.Key, o.Value])
theorem opInts_snoc (l : List S_Op) (b : S_Op) : opInts (l ++ [b]) = opInts l ++ [b.Kind, b.Key, b.Value] := by simp [opInts]
theorem opInts_len (l : List S_Op) : (opInts l).length = 3 * l.length := by
  induction l with
  | nil => rfl
  | cons a l ih =>
    show ([a.Kind, a.Key, a.Value] ++ opInts l).length = _
    rw [List.length_append, ih]; simp only [List.length_cons, List.length_nil]; omega
def txnInts (l : List S_Txn) : List Int := l.flatMap (fun t => [(t.Ops.length : Int)] ++ opInts t.Ops)
theorem txnInts_snoc (l : List S_Txn) (b : S_Txn) : txnInts (l ++ [b]) = txnInts l ++ [(b.Ops.length : Int)] ++ opInts b.Ops := by simp [txnInts]
theorem txnInts_len : ∀ (l : List S_Txn), (∀ t ∈ l, t.Ops.length ≤ 4) → (txnInts l).length ≤ 13 * l.length
  | [], _ => Nat.le_refl _
  | a :: l, h => by
    have ih := txnInts_len l (fun t ht => h t (List.mem_cons_of_mem _ ht))
    have h1 := h a (List.mem_cons_self ..)
    have h2 := opInts_len a.Ops
    show (([(a.Ops.length : Int)] ++ opInts a.Ops) ++ txnInts l).length ≤ _
    simp only [List.length_append, List.length_cons, List.length_nil]; omega

theorem l01In_eq (x lo hi : Int) : spec_l01In.f x lo hi = some (inB x lo hi) := by
  unfold spec_l01In.f inB; cases decide (lo ≤ x) <;> rfl

theorem spec_OpOK_eq (o : S_Op) : spec_OpOK.f o = some (opOK o) := by
  unfold spec_OpOK.f opOK
  simp only [l01In_eq, Option.bind_some]
  cases inB o.Kind 1 6 <;> cases inB o.Key 1 9999 <;> cases o.Kind == 1 <;> cases o.Kind == 3 <;> cases o.Kind == 6 <;> rfl

theorem l09Txn_eq (t : S_Txn) (h : t.Ops.length ≤ 1073741824) : spec_l09Txn.f t = some (txnOK t) := by
  unfold spec_l09Txn.f
  have := loopO_scan (step := fun s => spec_l09Txn.s0 t s) (fun k => (k : Int)) t.Ops.length (fun k => opOK (t.Ops.getD k z_Op)) (b := false) (t := ()) (fun k hk => by
    simp only [spec_l09Txn.s0, spec_OpOK_eq, Option.bind_some, Int.toNat_natCast, decide_eq_true (show (k : Int) < (t.Ops.length : Int) by omega), cond_true, if_pos (show (0 : Int) ≤ (k : Int) ∧ (k : Int) < (t.Ops.length : Int) by omega)]
    rw [w64_id (by omega) (by omega)]
    cases opOK (t.Ops.getD k z_Op) <;> rfl) (by
    simp only [spec_l09Txn.s0]
    rw [decide_eq_false (by omega)]; rfl)
  rw [show ((0 : Int)) = ((0 : Nat) : Int) from rfl, this, all_range t.Ops z_Op opOK]
  unfold txnOK
  simp only [l01In_eq, Option.bind_some]
  cases t.Ops.all opOK <;> rfl

theorem spec_BatchOK_eq (l : List S_Txn) (h : l.length ≤ 1073741824 ∧ ∀ y, y ∈ l → y.Ops.length ≤ 1073741824) : spec_BatchOK.f l = some (batchOK l) := by
  have hl := h.1
  unfold spec_BatchOK.f batchOK
  by_cases hbig : (l.length : Int) > 4096
  · rw [decide_eq_true hbig]
    have : inB (l.length : Int) 1 2 = false := by
      unfold inB; rw [decide_eq_false (show ¬ (l.length : Int) ≤ 2 by omega), Bool.and_false]
    rw [this]; rfl
  rw [decide_eq_false hbig]
  have := loopO_scan (step := fun s => spec_BatchOK.s0 l s) (fun k => (k : Int)) l.length (fun k => txnOK (l.getD k z_Txn)) (b := false) (t := ()) (fun k hk => by
    simp only [spec_BatchOK.s0, l09Txn_eq _ (h.2 _ (getD_mem hk z_Txn)), Option.bind_some, Int.toNat_natCast, decide_eq_true (show (k : Int) < (l.length : Int) by omega), cond_true, if_pos (show (0 : Int) ≤ (k : Int) ∧ (k : Int) < (l.length : Int) by omega)]
    rw [w64_id (by omega) (by omega)]
    cases txnOK (l.getD k z_Txn) <;> rfl) (by
    simp only [spec_BatchOK.s0]
    rw [decide_eq_false (by omega)]; rfl)
  simp only [l01In_eq, Option.bind_some, cond_false]
  rw [show ((0 : Int)) = ((0 : Nat) : Int) from rfl, this, all_range l z_Txn txnOK]
  cases inB (l.length : Int) 1 2 <;> cases l.all txnOK <;> rfl

theorem digits_step (k : Nat) (hk : k ≤ 1000000000000000000) (m : Nat) : spec_l00Digits.g (m + 1) (k : Int) = (if k < 10 then some (strOfNums [48 + (k : Int)]) else (spec_l00Digits.g m ((k / 10 : Nat) : Int)).bind fun y => if y.size + 1 ≤ 1152921504606846976 then some (y ++ strOfNums [48 + ((k % 10 : Nat) : Int)]) else none) := by
  rw [spec_l00Digits.g]
  have e1 : ((k : Int) == (-9223372036854775808)) = false := by rw [beq_eq_false_iff_ne]; omega
  rw [e1, decide_eq_false (show ¬ (k : Int) < 0 by omega)]
  simp only [cond_false]
  by_cases h : k < 10
  · rw [decide_eq_true (show (k : Int) < 10 by omega), if_pos h, w64_id (by omega) (by omega)]
    have : IntKind.wrap .u8 (48 + (k : Int)) = 48 + (k : Int) := by show (48 + (k : Int)) % 256 = _; omega
    rw [this]; rfl
  · rw [decide_eq_false (show ¬ (k : Int) < 10 by omega), if_neg h]
    have e2 : IntKind.wrap .i64 (Int.tdiv (k : Int) 10) = ((k / 10 : Nat) : Int) := by
      rw [Int.tdiv_eq_ediv_of_nonneg (by omega)]
      have : IntKind.wrap .i64 ((k : Int) / 10) = (k : Int) / 10 := w64_id (by omega) (by omega)
      rw [this]; omega
    have e3 : IntKind.wrap .u8 (w64 (48 + Int.tmod (k : Int) 10)) = 48 + ((k % 10 : Nat) : Int) := by
      rw [Int.tmod_eq_emod_of_nonneg (by omega), w64_id (by omega) (by omega)]
      show (48 + (k : Int) % 10) % 256 = _
      omega
    simp only [cond_false, e2, e3, strOfNums_size, List.length_cons, List.length_nil]
theorem digits_uniq (k : Nat) : k ≤ 1000000000000000000 → (∃ N, spec_l00Digits.g N (k : Int) = some (strOfNums (digL k))) ∧ ∀ m r, spec_l00Digits.g m (k : Int) = some r → r = strOfNums (digL k) := by
  induction k using Nat.strongRecOn with
  | ind k ih =>
    intro hk
    by_cases h : k < 10
    · have hd : digL k = [48 + (k : Int)] := by rw [digL, if_pos h]
      refine ⟨⟨1, by rw [digits_step k hk, if_pos h, hd]⟩, fun m r hr => ?_⟩
      cases m with
      | zero => rw [spec_l00Digits.g] at hr; cases hr
      | succ m => rw [digits_step k hk, if_pos h] at hr; cases hr; rw [hd]
    · have hd : digL k = digL (k / 10) ++ [48 + ((k % 10 : Nat) : Int)] := by rw [digL, if_neg h]
      obtain ⟨⟨N, hN⟩, hu⟩ := ih (k / 10) (by omega) (by omega)
      have hsz : (strOfNums (digL (k / 10))).size + 1 ≤ 1152921504606846976 := by
        rw [strOfNums_size]; have := (digL_len (k / 10)).2; omega
      refine ⟨⟨N + 1, by rw [digits_step k hk, if_neg h, hN]; simp only [Option.bind_some]; rw [if_pos hsz, hd, str_append]⟩, fun m r hr => ?_⟩
      cases m with
      | zero => rw [spec_l00Digits.g] at hr; cases hr
      | succ m =>
        rw [digits_step k hk, if_neg h] at hr
        obtain ⟨y, hy, hr⟩ := Option.bind_eq_some_iff.1 hr
        have := hu m y hy
        subst this
        rw [if_pos hsz] at hr
        cases hr
        rw [hd, str_append]
theorem digits_eq (k : Int) (h0 : 0 ≤ k) (h1 : k ≤ 1000000000000000000) : spec_l00Digits.f k = some (strOfNums (digL k.toNat)) := by
  obtain ⟨⟨N, hN⟩, hu⟩ := digits_uniq k.toNat (by omega)
  have e : ((k.toNat : Nat) : Int) = k := by omega
  rw [e] at hN hu
  unfold spec_l00Digits.f
  exact recO_eq N hN hu

theorem valL_snoc (l : List Int) (x : Int) : valL (l ++ [x]) = 10 * valL l + (x - 48) := by simp [valL, List.foldl_append]
theorem valL_take (l : List Int) (h : ∀ x ∈ l, isDg x) : ∀ k, k ≤ l.length → 0 ≤ valL (l.take k) ∧ valL (l.take k) < 10 ^ k
  | 0, _ => by simp [valL]
  | k + 1, hk => by
    obtain ⟨h1, h2⟩ := valL_take l h k (by omega)
    have hx : 48 ≤ l.getD k 0 ∧ l.getD k 0 ≤ 57 := h _ (getD_mem (by omega) 0)
    rw [take_snoc l k (by omega) 0, valL_snoc, Int.pow_succ]
    omega
theorem number_loop (u : ByteArray) (hu : u.size ≤ 18) : ∃ r, loopO (fun s : Int × Int => spec_l00Number.s0 u s.1 s.2) (0, 0) = some r ∧ ((∀ x ∈ bytesOf u, isDg x) ∧ r = .out (valL (bytesOf u)) ∨ (∃ x ∈ bytesOf u, ¬ isDg x) ∧ r = .ret (0, false)) := by
  have hl := bytesOf_len u
  obtain ⟨r, h1, h2⟩ := loopO_wf (step := fun s : Int × Int => spec_l00Number.s0 u s.1 s.2)
    (fun s => ∃ k : Nat, k ≤ u.size ∧ s = (valL ((bytesOf u).take k), (k : Int)) ∧ ∀ x ∈ (bytesOf u).take k, isDg x)
    (fun r => (∀ x ∈ bytesOf u, isDg x) ∧ r = .out (valL (bytesOf u)) ∨ (∃ x ∈ bytesOf u, ¬ isDg x) ∧ r = .ret (0, false)) (fun s => (u.size - s.2.toNat)) (fun s hI => by
      obtain ⟨k, hk, rfl, hd⟩ := hI
      by_cases c : k < u.size
      · have hb := byteAt_eq u (k : Int) (by omega) (by omega)
        rw [Int.toNat_natCast] at hb
        have hm := getD_mem (show k < (bytesOf u).length by omega) 0
        simp only [spec_l00Number.s0, decide_eq_true (show (k : Int) < (u.size : Int) by omega), cond_true, if_pos (show (0 : Int) ≤ (k : Int) ∧ (k : Int) < (u.size : Int) by omega), hb]
        generalize hx : (bytesOf u).getD k 0 = x at hm
        have hxb := bytesOf_isB u x hm
        by_cases h48 : x < 48
        · rw [decide_eq_true h48]
          exact .inr ⟨_, rfl, .inr ⟨⟨x, hm, fun h => by unfold isDg at h; omega⟩, rfl⟩⟩
        by_cases h57 : x > 57
        · rw [decide_eq_false h48, decide_eq_true h57]
          exact .inr ⟨_, rfl, .inr ⟨⟨x, hm, fun h => by unfold isDg at h; omega⟩, rfl⟩⟩
        rw [decide_eq_false h48, decide_eq_false h57]
        simp only [cond_false, Option.bind_some]
        have hv := valL_take ((bytesOf u).take k) hd k (by rw [List.length_take]; omega)
        rw [List.take_take, Nat.min_self] at hv
        have hp : (10 : Int) ^ k ≤ 100000000000000000 := by
          have : (10 : Nat) ^ k ≤ 10 ^ 17 := Nat.pow_le_pow_right (by decide) (by omega)
          have h2 : ((10 ^ k : Nat) : Int) ≤ ((10 ^ 17 : Nat) : Int) := by exact_mod_cast this
          simpa using h2
        have hw : IntKind.wrap .i64 x = x := w64_id (by omega) (by omega)
        rw [hw, w64_id (x := valL ((bytesOf u).take k) * 10) (by omega) (by omega), w64_id (x := valL ((bytesOf u).take k) * 10 + x) (by omega) (by omega), w64_id (by omega) (by omega), w64_id (by omega) (by omega)]
        refine .inl ⟨_, rfl, ⟨k + 1, by omega, ?_, ?_⟩, by simp only; omega⟩
        · rw [take_snoc (bytesOf u) k (by omega) 0, valL_snoc, hx]
          simp only [Prod.mk.injEq]; omega
        · intro y hy
          rw [take_snoc (bytesOf u) k (by omega) 0, hx] at hy
          rcases List.mem_append.1 hy with hy | hy
          · exact hd y hy
          · rw [List.mem_singleton.1 hy]; unfold isDg; omega
      · have e : k = (bytesOf u).length := by omega
        simp only [spec_l00Number.s0]
        rw [decide_eq_false (by omega)]
        rw [e, List.take_length] at hd ⊢
        exact .inr ⟨_, rfl, .inl ⟨hd, rfl⟩⟩) _ (0, 0) (Nat.le_refl _) ⟨0, Nat.zero_le _, by simp [valL], by simp⟩
  exact ⟨r, h1, h2⟩
theorem digL_head (n : Nat) : (digL n).getD 0 0 = 48 → n = 0 := by
  induction n using Nat.strongRecOn with
  | ind n ih =>
    rw [digL]
    by_cases h : n < 10
    · rw [if_pos h]; intro e
      have : 48 + (n : Int) = 48 := e
      omega
    · rw [if_neg h]; intro e
      have hl := (digL_len (n / 10)).1
      rw [List.getD_eq_getElem?_getD, List.getElem?_append_left (by omega), ← List.getD_eq_getElem?_getD] at e
      have := ih (n / 10) (by omega) e
      omega
theorem valL_bound (u : ByteArray) (hu : u.size ≤ 18) (h : ∀ x ∈ bytesOf u, isDg x) : 0 ≤ valL (bytesOf u) ∧ valL (bytesOf u) ≤ 1000000000000000000 := by
  have hl := bytesOf_len u
  have := valL_take (bytesOf u) h (bytesOf u).length (Nat.le_refl _)
  rw [List.take_length] at this
  have hp : (10 : Int) ^ (bytesOf u).length ≤ 1000000000000000000 := by
    have h1 : (10 : Nat) ^ (bytesOf u).length ≤ 10 ^ 18 := Nat.pow_le_pow_right (by decide) (by omega)
    have h2 : ((10 ^ (bytesOf u).length : Nat) : Int) ≤ ((10 ^ 18 : Nat) : Int) := by exact_mod_cast h1
    simpa using h2
  omega
theorem l00Number_spec (x : ByteArray) (hx : x.size ≤ 1048576) : ∃ v b, spec_l00Number.f x = some (v, b) ∧ (∀ n : Nat, x = strOfNums (digL n) → (digL n).length ≤ 18 → v = n ∧ b = true) ∧ (b = true → v ≤ 1000000000000000000 ∧ ((bytesOf x).getD 0 0 ≠ 45 → x.size ≤ 18)) := by
  have hl := bytesOf_len x
  have hdn : ∀ n : Nat, x = strOfNums (digL n) → bytesOf x = digL n ∧ 1 ≤ x.size := fun n hn => by
    have h1 := bytes_str (digL_isB n)
    rw [← hn] at h1
    exact ⟨h1, by rw [h1] at hl; have := (digL_len n).1; omega⟩
  unfold spec_l00Number.f
  by_cases h0 : x.size = 0
  · have e : x = (⟨#[]⟩ : ByteArray) := ba_ext (by rw [List.eq_nil_of_length_eq_zero (hl.trans h0)]; rfl)
    refine ⟨0, false, by rw [e]; rfl, fun n hn _ => ?_, fun h => by cases h⟩
    have := (hdn n hn).2; omega
  have hb := byteAt_eq x 0 (by omega) (by omega)
  have h0t : (0 : Int).toNat = 0 := rfl
  rw [h0t] at hb
  rw [decide_eq_true (show (x.size : Int) > 0 by omega)]
  simp only [cond_true, if_pos (show (0 : Int) ≤ (0 : Int) ∧ (0 : Int) < (x.size : Int) by omega), Option.bind_some, hb]
  cases hc : (bytesOf x).getD 0 0 == 45
  · simp only [cond_false, Option.bind_some, hb]
    rw [show ((x.size : Int) == 0) = false by rw [beq_eq_false_iff_ne]; omega]
    by_cases h18 : (x.size : Int) > 18
    · rw [decide_eq_true h18]
      refine ⟨0, false, rfl, fun n hn hlen => ?_, fun h => by cases h⟩
      exfalso
      have := (hdn n hn).1
      rw [this] at hl; omega
    rw [decide_eq_false h18]
    simp only [cond_false, if_pos (show (0 : Int) ≤ (0 : Int) ∧ (0 : Int) < (x.size : Int) by omega)]
    obtain ⟨r, hr, hcase⟩ := number_loop x (by omega)
    have fin : ∀ q : Option Bool, q = some false → (∀ w : Option (Int × Bool), w = some (match r with | .out a => (a, true) | .ret p => p) → ∃ v b, w = some (v, b) ∧ (∀ n : Nat, x = strOfNums (digL n) → (digL n).length ≤ 18 → v = n ∧ b = true) ∧ (b = true → v ≤ 1000000000000000000 ∧ ((bytesOf x).getD 0 0 ≠ 45 → x.size ≤ 18))) := fun q _ w hw => by
      rcases hcase with ⟨hd, rfl⟩ | ⟨⟨y, hy, hny⟩, rfl⟩
      · refine ⟨_, _, hw, fun n hn _ => ⟨?_, rfl⟩, fun _ => ⟨(valL_bound x (by omega) hd).2, fun _ => by omega⟩⟩
        rw [(hdn n hn).1, valL_dig]
      · refine ⟨_, _, hw, fun n hn _ => ?_, fun h => by cases h⟩
        exfalso
        rw [(hdn n hn).1] at hy
        exact hny (digL_dg n y hy)
    cases h48 : (bytesOf x).getD 0 0 == 48
    · simp only [cond_false, Option.bind_some, hr]
      refine fin (some false) rfl _ ?_
      rcases hcase with ⟨hd, rfl⟩ | ⟨_, rfl⟩
      · have := valL_bound x (by omega) hd
        simp only
        rw [Int.one_mul, w64_id (by omega) (by omega)]
      · rfl
    · by_cases h1 : (x.size : Int) > 1
      · rw [decide_eq_true h1]
        refine ⟨0, false, rfl, fun n hn hlen => ?_, fun h => by cases h⟩
        exfalso
        have e := (hdn n hn).1
        rw [e, beq_iff_eq] at h48
        have := digL_head n h48
        subst this
        rw [e] at hl
        have : (digL 0).length = 1 := by rw [digL]; rfl
        omega
      · rw [decide_eq_false h1, show decide ((1 : Int) < 0) = false from rfl]
        simp only [cond_true, cond_false, Option.bind_some, hr]
        refine fin (some false) rfl _ ?_
        rcases hcase with ⟨hd, rfl⟩ | ⟨_, rfl⟩
        · have := valL_bound x (by omega) hd
          simp only
          rw [Int.one_mul, w64_id (by omega) (by omega)]
        · rfl
  · have h45 : (bytesOf x).getD 0 0 = 45 := by simpa using hc
    have noN : ∀ n : Nat, x = strOfNums (digL n) → False := fun n hn => by
      have e := (hdn n hn).1
      have := digL_dg n _ (getD_mem (show 0 < (digL n).length by have := (digL_len n).1; omega) 0)
      rw [← e, h45] at this
      unfold isDg at this; omega
    simp only [cond_true, if_pos (show (0 : Int) ≤ (1 : Int) ∧ (1 : Int) ≤ (x.size : Int) by omega), Option.bind_some]
    generalize x.extract (1 : Int).toNat x.size = u
    by_cases u0 : ((u.size : Int) == 0) = true
    · rw [u0]
      exact ⟨0, false, rfl, fun n hn _ => (noN n hn).elim, fun h => by cases h⟩
    rw [show ((u.size : Int) == 0) = false by simpa using u0]
    have u0' : 0 < u.size := by
      rcases Nat.eq_zero_or_pos u.size with h | h
      · exact absurd (by rw [h]; rfl) u0
      · exact h
    by_cases h18 : (u.size : Int) > 18
    · rw [decide_eq_true h18]
      exact ⟨0, false, rfl, fun n hn _ => (noN n hn).elim, fun h => by cases h⟩
    rw [decide_eq_false h18]
    simp only [cond_false, if_pos (show (0 : Int) ≤ (0 : Int) ∧ (0 : Int) < (u.size : Int) by omega)]
    obtain ⟨r, hr, hcase⟩ := number_loop u (by omega)
    cases h48 : byteAt u 0 == 48
    · simp only [cond_false, Option.bind_some, hr]
      rcases hcase with ⟨hd, rfl⟩ | ⟨_, rfl⟩
      · have hv := valL_bound u (by omega) hd
        refine ⟨_, _, rfl, fun n hn _ => (noN n hn).elim, fun _ => ⟨?_, fun h => absurd h45 h⟩⟩
        rw [w64_id (by omega) (by omega)]; omega
      · exact ⟨_, _, rfl, fun n hn _ => (noN n hn).elim, fun h => by cases h⟩
    · rw [show decide ((-1 : Int) < 0) = true from rfl]
      refine ⟨0, false, ?_, fun n hn _ => (noN n hn).elim, fun h => by cases h⟩
      cases decide ((u.size : Int) > 1) <;> rfl

theorem l09Number_spec (x : ByteArray) (hx : x.size ≤ 1048576) : ∃ v b, spec_l09Number.f x = some (v, b) ∧ (∀ n : Nat, x = strOfNums (digL n) → (digL n).length ≤ 18 → v = n ∧ b = true) ∧ (b = true → ∃ n : Nat, x = strOfNums (digL n) ∧ (digL n).length ≤ 18 ∧ v = n) := by
  obtain ⟨v, b, e, h1, h2⟩ := l00Number_spec x hx
  unfold spec_l09Number.f
  simp only [e, Option.bind_some]
  cases b
  · exact ⟨v, false, rfl, fun n hn hl => (by have := (h1 n hn hl).2; cases this), fun h => by cases h⟩
  obtain ⟨hb, hs⟩ := h2 rfl
  simp only [cond_true]
  by_cases h0 : v ≥ 0
  · rw [decide_eq_true h0]
    simp only [cond_true, digits_eq v h0 hb, Option.bind_some]
    refine ⟨v, _, rfl, fun n hn hl => ?_, fun hq => ?_⟩
    · have hv := (h1 n hn hl).1
      refine ⟨hv, ?_⟩
      rw [hv, Int.toNat_natCast, ← hn]; exact bs_self x
    · rw [ba_toList_eq, decide_eq_true_eq] at hq
      refine ⟨v.toNat, hq.symm, ?_, by omega⟩
      have e1 := bytes_str (digL_isB v.toNat)
      rw [hq] at e1
      have hl := bytesOf_len x
      have h18 := hs (by
        rw [e1]
        have h := (digL_len v.toNat).1
        have h2 := digL_dg v.toNat _ (getD_mem (show 0 < (digL v.toNat).length by omega) 0)
        unfold isDg at h2; omega)
      rw [e1] at hl; omega
  · rw [decide_eq_false h0]
    exact ⟨v, false, rfl, fun n hn hl => (by have := (h1 n hn hl).1; omega), fun h => by cases h⟩

theorem idx_slices_IndexFunc_string_string (l : List ByteArray) (q : ByteArray → Option Bool) (p : ByteArray → Bool) (h : l.length ≤ 1073741824) (hq : ∀ x, x ∈ l → q x = some (p x)) : slices_IndexFunc_string_string.f l q = some (idxOf l ByteArray.empty p) := by
  unfold slices_IndexFunc_string_string.f idxOf
  have := loopO_find (step := fun s => slices_IndexFunc_string_string.s0 l q s) (fun k => (k : Int)) l.length (fun k => p (l.getD k ByteArray.empty)) (fun k => (k : Int)) (t := ()) (fun k hk => by
    simp only [slices_IndexFunc_string_string.s0, decide_eq_true (show (k : Int) < (l.length : Int) by omega), cond_true, if_pos (show (0 : Int) ≤ (k : Int) ∧ (k : Int) < (l.length : Int) by omega), Int.toNat_natCast, hq _ (getD_mem hk _), Option.bind_some]
    rw [w64_id (by omega) (by omega)]
    cases p (l.getD k ByteArray.empty) <;> rfl) (by
    simp only [slices_IndexFunc_string_string.s0]
    rw [decide_eq_false (by omega)]; rfl)
  rw [show ((0 : Int)) = ((0 : Nat) : Int) from rfl, this]
  cases (List.range l.length).find? (fun k => p (l.getD k ByteArray.empty)) <;> rfl

theorem any_slices_ContainsFunc_string_string (l : List ByteArray) (q : ByteArray → Option Bool) (p : ByteArray → Bool) (h : l.length ≤ 1073741824) (hq : ∀ x, x ∈ l → q x = some (p x)) : slices_ContainsFunc_string_string.f l q = some (l.any p) := by
  unfold slices_ContainsFunc_string_string.f
  rw [idx_slices_IndexFunc_string_string l q p h hq, ← idxOf_any l ByteArray.empty p]
  rfl

theorem all_impl_areAll_string (l : List ByteArray) (q : ByteArray → Option Bool) (p : ByteArray → Bool) (h : l.length ≤ 1073741824) (hq : ∀ x, x ∈ l → q x = some (p x)) : impl_areAll_string.f l q = some (l.all p) := by
  unfold impl_areAll_string.f
  rw [any_slices_ContainsFunc_string_string l _ (fun x => !p x) h (fun x hx => by unfold impl_areAll_string__c1.f; rw [hq x hx]; rfl)]
  simp only [Option.bind_some, List.any_eq_not_all_not, Bool.not_not]

def shortT (t : ByteArray) : Bool := decide ((t.size : Int) ≤ 65536)
theorem areShort_eq (l : List ByteArray) (h : l.length ≤ 1073741824) : impl_areShort.f l = some (l.all shortT) := by
  unfold impl_areShort.f
  rw [all_impl_areAll_string l impl_areShort_c1.f shortT h (fun x _ => rfl)]; rfl
theorem areShort1 (t : ByteArray) : impl_areShort.f [t] = some (shortT t) := by
  rw [areShort_eq _ (by simp)]; simp

theorem within_eq (x lo hi : Int) : impl_within.f x lo hi = some (inB x lo hi) := by
  unfold impl_within.f inB; cases decide (lo ≤ x) <;> rfl

theorem idx_slices_IndexFunc_impl_Txn_impl_Txn (l : List S_Txn) (q : S_Txn → Option Bool) (p : S_Txn → Bool) (h : l.length ≤ 1073741824) (hq : ∀ x, x ∈ l → q x = some (p x)) : slices_IndexFunc_impl_Txn_impl_Txn.f l q = some (idxOf l z_Txn p) := by
  unfold slices_IndexFunc_impl_Txn_impl_Txn.f idxOf
  have := loopO_find (step := fun s => slices_IndexFunc_impl_Txn_impl_Txn.s0 l q s) (fun k => (k : Int)) l.length (fun k => p (l.getD k z_Txn)) (fun k => (k : Int)) (t := ()) (fun k hk => by
    simp only [slices_IndexFunc_impl_Txn_impl_Txn.s0, decide_eq_true (show (k : Int) < (l.length : Int) by omega), cond_true, if_pos (show (0 : Int) ≤ (k : Int) ∧ (k : Int) < (l.length : Int) by omega), Int.toNat_natCast, hq _ (getD_mem hk _), Option.bind_some]
    rw [w64_id (by omega) (by omega)]
    cases p (l.getD k z_Txn) <;> rfl) (by
    simp only [slices_IndexFunc_impl_Txn_impl_Txn.s0]
    rw [decide_eq_false (by omega)]; rfl)
  rw [show ((0 : Int)) = ((0 : Nat) : Int) from rfl, this]
  cases (List.range l.length).find? (fun k => p (l.getD k z_Txn)) <;> rfl

theorem any_slices_ContainsFunc_impl_Txn_impl_Txn (l : List S_Txn) (q : S_Txn → Option Bool) (p : S_Txn → Bool) (h : l.length ≤ 1073741824) (hq : ∀ x, x ∈ l → q x = some (p x)) : slices_ContainsFunc_impl_Txn_impl_Txn.f l q = some (l.any p) := by
  unfold slices_ContainsFunc_impl_Txn_impl_Txn.f
  rw [idx_slices_IndexFunc_impl_Txn_impl_Txn l q p h hq, ← idxOf_any l z_Txn p]
  rfl

theorem all_impl_areAll_impl_Txn (l : List S_Txn) (q : S_Txn → Option Bool) (p : S_Txn → Bool) (h : l.length ≤ 1073741824) (hq : ∀ x, x ∈ l → q x = some (p x)) : impl_areAll_impl_Txn.f l q = some (l.all p) := by
  unfold impl_areAll_impl_Txn.f
  rw [any_slices_ContainsFunc_impl_Txn_impl_Txn l _ (fun x => !p x) h (fun x hx => by unfold impl_areAll_impl_Txn__c1.f; rw [hq x hx]; rfl)]
  simp only [Option.bind_some, List.any_eq_not_all_not, Bool.not_not]

theorem isKey_eq (x : Int) : impl_isKey.f x = some (inB x 1 9999) := by unfold impl_isKey.f; rw [within_eq]; rfl

theorem isBare_eq (x : Int) : impl_isBare.f x = some (x == 1 || x == 3) := by
  unfold impl_isBare.f
  cases x == 1 <;> rfl

theorem isValue_eq (x : Int) : impl_isValue.f x = some (inB x 0 999999) := by unfold impl_isValue.f; rw [within_eq]; rfl

theorem impl_OpOK_eq (o : S_Op) : impl_OpOK.f o = some (opOK o) := by
  unfold impl_OpOK.f impl_isBare.f opOK
  simp only [within_eq, isKey_eq, isValue_eq, Option.bind_some]
  cases inB o.Kind 1 6 <;> cases inB o.Key 1 9999 <;> cases o.Kind == 1 <;> cases o.Kind == 3 <;> cases o.Kind == 6 <;> rfl

theorem idx_slices_IndexFunc_impl_Op_impl_Op (l : List S_Op) (q : S_Op → Option Bool) (p : S_Op → Bool) (h : l.length ≤ 1073741824) (hq : ∀ x, x ∈ l → q x = some (p x)) : slices_IndexFunc_impl_Op_impl_Op.f l q = some (idxOf l z_Op p) := by
  unfold slices_IndexFunc_impl_Op_impl_Op.f idxOf
  have := loopO_find (step := fun s => slices_IndexFunc_impl_Op_impl_Op.s0 l q s) (fun k => (k : Int)) l.length (fun k => p (l.getD k z_Op)) (fun k => (k : Int)) (t := ()) (fun k hk => by
    simp only [slices_IndexFunc_impl_Op_impl_Op.s0, decide_eq_true (show (k : Int) < (l.length : Int) by omega), cond_true, if_pos (show (0 : Int) ≤ (k : Int) ∧ (k : Int) < (l.length : Int) by omega), Int.toNat_natCast, hq _ (getD_mem hk _), Option.bind_some]
    rw [w64_id (by omega) (by omega)]
    cases p (l.getD k z_Op) <;> rfl) (by
    simp only [slices_IndexFunc_impl_Op_impl_Op.s0]
    rw [decide_eq_false (by omega)]; rfl)
  rw [show ((0 : Int)) = ((0 : Nat) : Int) from rfl, this]
  cases (List.range l.length).find? (fun k => p (l.getD k z_Op)) <;> rfl

theorem any_slices_ContainsFunc_impl_Op_impl_Op (l : List S_Op) (q : S_Op → Option Bool) (p : S_Op → Bool) (h : l.length ≤ 1073741824) (hq : ∀ x, x ∈ l → q x = some (p x)) : slices_ContainsFunc_impl_Op_impl_Op.f l q = some (l.any p) := by
  unfold slices_ContainsFunc_impl_Op_impl_Op.f
  rw [idx_slices_IndexFunc_impl_Op_impl_Op l q p h hq, ← idxOf_any l z_Op p]
  rfl

theorem all_impl_areAll_impl_Op (l : List S_Op) (q : S_Op → Option Bool) (p : S_Op → Bool) (h : l.length ≤ 1073741824) (hq : ∀ x, x ∈ l → q x = some (p x)) : impl_areAll_impl_Op.f l q = some (l.all p) := by
  unfold impl_areAll_impl_Op.f
  rw [any_slices_ContainsFunc_impl_Op_impl_Op l _ (fun x => !p x) h (fun x hx => by unfold impl_areAll_impl_Op__c1.f; rw [hq x hx]; rfl)]
  simp only [Option.bind_some, List.any_eq_not_all_not, Bool.not_not]

theorem isTxn_eq (t : S_Txn) (h : t.Ops.length ≤ 1073741824) : impl_isTxn.f t = some (txnOK t) := by
  unfold impl_isTxn.f txnOK
  rw [all_impl_areAll_impl_Op t.Ops _ opOK h (fun x _ => impl_OpOK_eq x)]
  simp only [within_eq, Option.bind_some]
  cases inB (t.Ops.length : Int) 1 4 <;> cases t.Ops.all opOK <;> rfl

theorem impl_BatchOK_eq (l : List S_Txn) (h : l.length ≤ 1073741824 ∧ ∀ y, y ∈ l → y.Ops.length ≤ 1073741824) : impl_BatchOK.f l = some (batchOK l) := by
  unfold impl_BatchOK.f batchOK
  rw [all_impl_areAll_impl_Txn l _ txnOK h.1 (fun x hx => isTxn_eq x (h.2 x hx))]
  simp only [within_eq, Option.bind_some]
  cases inB (l.length : Int) 1 2 <;> cases l.all txnOK <;> rfl

/-! A text cut at its spaces. -/
def sp : List Int → List (List Int)
  | [] => [[]]
  | c :: r => if c = 32 then [] :: sp r else match sp r with
    | [] => [[c]]
    | w :: ws => (c :: w) :: ws
theorem sp_word (r : List Int) : ∀ w : List Int, (∀ x ∈ w, x ≠ 32) → sp (w ++ 32 :: r) = w :: sp r
  | [], _ => by simp [sp]
  | c :: w, h => by
    rw [List.cons_append, sp, if_neg (h c (List.mem_cons_self ..)), sp_word r w (fun x hx => h x (List.mem_cons_of_mem _ hx))]
theorem sp_last : ∀ w : List Int, (∀ x ∈ w, x ≠ 32) → sp w = [w]
  | [], _ => rfl
  | c :: w, h => by rw [sp, if_neg (h c (List.mem_cons_self ..)), sp_last w (fun x hx => h x (List.mem_cons_of_mem _ hx))]
def wordsL (l : List Int) : List (List Int) := (sp l).filter (fun w => !w.isEmpty)
theorem u8_32 (b : UInt8) : ((b.toNat : Int) = 32) ↔ b = 32 := by
  constructor
  · intro h
    have : b.toNat = 32 := by omega
    exact UInt8.toNat_inj.1 (by rw [this]; rfl)
  · rintro rfl; rfl
theorem space_miss (s : ByteArray) (h : Lib.indexB s (⟨#[32]⟩ : ByteArray) = -1) : ∀ x ∈ bytesOf s, x ≠ 32 := by
  have h2 : Lib.indexByte s.data.toList 32 = -1 := (Lib.index_one s.data.toList 32).symm.trans h
  intro x hx e
  obtain ⟨b, hb, rfl⟩ := List.mem_map.1 hx
  obtain ⟨k, hk, rfl⟩ := List.mem_iff_getElem.1 hb
  exact Lib.indexByte_none h2 k (by rw [List.getElem?_eq_getElem hk, (u8_32 _).1 e])
theorem space_hit (s : ByteArray) (i : Nat) (h : Lib.indexB s (⟨#[32]⟩ : ByteArray) = i) : bytesOf s = (bytesOf s).take i ++ 32 :: (bytesOf s).drop (i + 1) ∧ ∀ x ∈ (bytesOf s).take i, x ≠ 32 := by
  have h2 : Lib.indexByte s.data.toList 32 = i := (Lib.index_one s.data.toList 32).symm.trans h
  obtain ⟨h3, h4⟩ := Lib.indexByte_some h2
  have hb : (bytesOf s)[i]? = some 32 := by unfold bytesOf; rw [List.getElem?_map, h3]; rfl
  obtain ⟨hi, he⟩ := List.getElem?_eq_some_iff.1 hb
  refine ⟨?_, fun x hx e => ?_⟩
  · conv => lhs; rw [← List.take_append_drop i (bytesOf s), List.drop_eq_getElem_cons hi, he]
  · obtain ⟨k, hk, rfl⟩ := List.mem_iff_getElem.1 hx
    rw [List.length_take] at hk
    rw [List.getElem_take] at e
    have hk2 : k < s.data.toList.length := by have : (bytesOf s).length = s.data.toList.length := by simp [bytesOf]
                                              omega
    refine h4 k (by omega) ?_
    rw [List.getElem?_eq_getElem hk2]
    have : (bytesOf s)[k] = ((s.data.toList[k]).toNat : Int) := by simp [bytesOf]
    rw [this] at e
    rw [(u8_32 _).1 e]
theorem splitB_sp : ∀ (k : Nat) (s : ByteArray), Lib.countB s (⟨#[32]⟩ : ByteArray) = k → (Lib.splitB (⟨#[32]⟩ : ByteArray) 0 k s).map bytesOf = sp (bytesOf s)
  | 0, s, hk => by
    rcases Lib.indexB_cases s (⟨#[32]⟩ : ByteArray) with hix | ⟨i, hix, _⟩
    · rw [Lib.splitB_zero, sp_last _ (space_miss s hix)]; rfl
    · have := Lib.countB_hit s (⟨#[32]⟩ : ByteArray) i (by decide) hix
      omega
  | k + 1, s, hk => by
    rcases Lib.indexB_cases s (⟨#[32]⟩ : ByteArray) with hix | ⟨i, hix, hroom⟩
    · rw [Lib.countB_miss s _ hix] at hk; omega
    · have hc := Lib.countB_hit s (⟨#[32]⟩ : ByteArray) i (by decide) hix
      obtain ⟨h1, h2⟩ := space_hit s i hix
      have hl := bytesOf_len s
      have h1s : (⟨#[32]⟩ : ByteArray).size = 1 := rfl
      rw [h1s] at hroom
      have ih := splitB_sp k (s.extract (i + (⟨#[32]⟩ : ByteArray).size) s.size) (by omega)
      rw [Lib.splitB_hit _ 0 k s i hix, List.map_cons, ih, bytesOf_extract, bytesOf_extract, h1s]
      conv => rhs; rw [h1, sp_word _ _ h2]
      rw [List.take_of_length_le (l := (bytesOf s).drop (i + 1)) (by rw [List.length_drop]; omega)]
      simp
theorem split_eq (x : ByteArray) (hx : x.size ≤ 1048576) : ∃ l, strings_Split.f x (⟨#[32]⟩ : ByteArray) = some l ∧ l.map bytesOf = sp (bytesOf x) ∧ l.length ≤ 1048577 := by
  unfold strings_Split.f
  rw [if_pos ⟨by omega, by decide⟩]
  refine ⟨_, rfl, splitB_sp _ x rfl, ?_⟩
  rw [Lib.splitB_all _ (by decide) 0 _ x rfl]
  have := Lib.countB_le (⟨#[32]⟩ : ByteArray) (by decide) x.size x (Nat.le_refl _)
  omega

theorem idxOf_first {α : Type} (l : List α) (z : α) (p : α → Bool) : (idxOf l z p = -1 ∧ ∀ x ∈ l, p x = false) ∨ ∃ k : Nat, k < l.length ∧ idxOf l z p = (k : Int) ∧ p (l.getD k z) = true ∧ ∀ j, j < k → p (l.getD j z) = false := by
  unfold idxOf
  cases h : (List.range l.length).find? (fun k => p (l.getD k z)) with
  | none =>
    refine .inl ⟨rfl, fun x hx => ?_⟩
    obtain ⟨j, hj, rfl⟩ := List.mem_iff_getElem.1 hx
    rw [List.find?_eq_none] at h
    have := h j (List.mem_range.2 hj)
    rw [getD_lt hj] at this
    simpa using this
  | some k =>
    rw [List.find?_range_eq_some] at h
    exact .inr ⟨k, by simpa using h.2.1, rfl, by simpa using h.1, fun j hj => by simpa using h.2.2 j hj⟩
theorem deleteFunc_eq (l : List ByteArray) (q : ByteArray → Option Bool) (p : ByteArray → Bool) (h : l.length ≤ 1073741824) (hq : ∀ x, x ∈ l → q x = some (p x)) : slices_DeleteFunc_string_string.f l q = some (l.filter fun x => !p x) := by
  unfold slices_DeleteFunc_string_string.f
  rw [idx_slices_IndexFunc_string_string l q p h hq]
  simp only [Option.bind_some]
  rcases idxOf_first l ByteArray.empty p with ⟨e, hn⟩ | ⟨k, hk, e, hpk, hf⟩
  · rw [e]
    have : l.filter (fun x => !p x) = l := List.filter_eq_self.2 (fun x hx => by rw [hn x hx]; rfl)
    rw [this]; rfl
  · rw [e, show ((k : Int) == -1) = false by rw [beq_eq_false_iff_ne]; omega]
    simp only [cond_false]
    have hk0 : (l.take (k + 1)).filter (fun x => !p x) = l.take k := by
      rw [take_snoc l k hk ByteArray.empty, List.filter_append, List.filter_cons, hpk]
      have : (l.take k).filter (fun x => !p x) = l.take k := List.filter_eq_self.2 (fun x hx => by
        obtain ⟨j, hj, rfl⟩ := List.mem_iff_getElem.1 hx
        rw [List.length_take] at hj
        have := hf j (by omega)
        rw [getD_lt (by omega)] at this
        rw [List.getElem_take, this]; rfl)
      rw [this]; simp
    obtain ⟨r, h1, h2⟩ := loopO_wf (step := fun s : List ByteArray × Int × Int => slices_DeleteFunc_string_string.s0 l q s.1 s.2.1 s.2.2)
      (fun s => ∃ i j : Nat, s.2.1 = (i : Int) ∧ s.2.2 = (j : Int) ∧ i < j ∧ j ≤ l.length ∧ s.1.length = l.length ∧ s.1.take i = (l.take j).filter (fun x => !p x) ∧ s.1.drop j = l.drop j)
      (fun r => ∃ u : List ByteArray, ∃ i : Nat, r = .out (u, (i : Int)) ∧ i ≤ l.length ∧ u.length = l.length ∧ u.take i = l.filter (fun x => !p x)) (fun s => l.length - s.2.2.toNat) (fun s hI => by
        obtain ⟨u, i0, j0⟩ := s
        obtain ⟨i, j, hi, hj, hij, hjl, hu, ht, hd⟩ := hI
        simp only at hi hj hu ht hd
        subst hi; subst hj
        by_cases c : j < l.length
        · have hv : u.getD j ByteArray.empty = l.getD j ByteArray.empty := by
            have := congrArg (fun m => m.getD 0 ByteArray.empty) hd
            simpa [List.getD_eq_getElem?_getD, List.getElem?_drop] using this
          simp only [slices_DeleteFunc_string_string.s0, decide_eq_true (show (j : Int) < (l.length : Int) by omega), cond_true, if_pos (show (0 : Int) ≤ (j : Int) ∧ (j : Int) < (l.length : Int) by omega), Int.toNat_natCast, hv, hq _ (getD_mem c _), Option.bind_some]
          have hlt : l.take (j + 1) = l.take j ++ [l.getD j ByteArray.empty] := take_snoc l j c _
          cases hp : p (l.getD j ByteArray.empty)
          · simp only [Bool.not_false, cond_true, if_pos (show (0 : Int) ≤ (i : Int) ∧ (i : Int) < (l.length : Int) by omega), Option.bind_some]
            refine .inl ⟨_, rfl, ⟨i + 1, j + 1, by simp only; rw [w64_id (by omega) (by omega)]; omega, by simp only; rw [w64_id (by omega) (by omega)]; omega, by omega, by omega, by simp only [List.length_set]; exact hu, ?_, ?_⟩, by simp only; rw [w64_id (by omega) (by omega)]; omega⟩
            · simp only
              rw [take_snoc _ i (by rw [List.length_set]; omega) ByteArray.empty, getD_set_self _ _ _ (by omega), List.take_set_of_le (Nat.le_refl _), ht, hlt, List.filter_append, List.filter_cons, hp]
              rfl
            · simp only
              rw [List.drop_set_of_lt (by omega)]
              have := congrArg (List.drop 1) hd
              simpa [List.drop_drop] using this
          · simp only [Bool.not_true, cond_false, Option.bind_some]
            refine .inl ⟨_, rfl, ⟨i, j + 1, rfl, by simp only; rw [w64_id (by omega) (by omega)]; omega, by omega, by omega, hu, ?_, ?_⟩, by simp only; rw [w64_id (by omega) (by omega)]; omega⟩
            · simp only
              rw [ht, hlt, List.filter_append, List.filter_cons, hp]
              simp
            · have := congrArg (List.drop 1) hd
              simpa [List.drop_drop] using this
        · simp only [slices_DeleteFunc_string_string.s0]
          rw [decide_eq_false (by omega)]
          refine .inr ⟨_, rfl, u, i, rfl, by omega, hu, ?_⟩
          rw [ht, List.take_of_length_le (by omega)]) _ (l, (k : Int), w64 ((k : Int) + 1)) (Nat.le_refl _) ⟨k, k + 1, rfl, by simp only; rw [w64_id (by omega) (by omega)]; omega, by omega, by omega, rfl, hk0.symm, rfl⟩
    rw [h1]
    obtain ⟨u, i, rfl, hi, hu, ht⟩ := h2
    simp only [Option.bind_some]
    rw [if_pos (by omega), if_pos (by omega), Int.toNat_natCast]
    have : (clrL u i ByteArray.empty).take i = u.take i := by
      unfold clrL
      apply List.take_left'
      rw [List.length_take]; omega
    rw [this, ht]

theorem sp_len : ∀ (l : List Int), ∀ w ∈ sp l, w.length ≤ l.length
  | [], w, h => by simp [sp] at h; subst h; simp
  | c :: r, w, h => by
    rw [sp] at h
    split at h
    · rcases List.mem_cons.1 h with rfl | h
      · simp
      · have := sp_len r w h; rw [List.length_cons]; omega
    · split at h
      · simp at h; subst h; simp
      · rename_i w0 ws e
        rcases List.mem_cons.1 h with rfl | h
        · have := sp_len r w0 (by rw [e]; exact List.mem_cons_self ..)
          simp only [List.length_cons]; omega
        · have := sp_len r w (by rw [e]; exact List.mem_cons_of_mem _ h)
          rw [List.length_cons]; omega
theorem wordsOf_eq (x : ByteArray) (hx : x.size ≤ 1048576) : ∃ l, impl_wordsOf.f x = some l ∧ l.map bytesOf = wordsL (bytesOf x) ∧ l.length ≤ 1048577 ∧ ∀ w ∈ l, w.size ≤ 1048576 := by
  obtain ⟨l0, e1, e2, e3⟩ := split_eq x hx
  unfold impl_wordsOf.f
  simp only [e1, Option.bind_some]
  rw [deleteFunc_eq l0 impl_wordsOf_c1.f (fun x => x.toList == (⟨#[]⟩ : ByteArray).toList) (by omega) (fun _ _ => rfl)]
  refine ⟨_, rfl, ?_, Nat.le_trans (List.length_filter_le _ _) e3, fun w hw => ?_⟩
  · unfold wordsL
    rw [← e2, List.filter_map]
    congr 1
    apply List.filter_congr
    intro y _
    simp only [Function.comp]
    rw [ba_toList_eq]
    have h0 := bytesOf_len y
    by_cases h : y = (⟨#[]⟩ : ByteArray)
    · subst h; rfl
    · rw [decide_eq_false h]
      have : bytesOf y ≠ [] := fun e => h (ba_ext (by rw [e]; rfl))
      cases hb : bytesOf y with
      | nil => exact absurd hb this
      | cons a r => rfl
  · have hm := (List.mem_filter.1 hw).1
    have := sp_len (bytesOf x) (bytesOf w) (by rw [← e2]; exact List.mem_map.2 ⟨w, hm, rfl⟩)
    rw [bytesOf_len, bytesOf_len] at this
    omega
theorem wordsL_word (w r : List Int) (h : ∀ x ∈ w, x ≠ 32) : wordsL (w ++ 32 :: r) = (if w = [] then [] else [w]) ++ wordsL r := by
  unfold wordsL
  rw [sp_word r w h, List.filter_cons]
  cases w <;> simp
theorem wordsL_last (w : List Int) (h : ∀ x ∈ w, x ≠ 32) : wordsL w = if w = [] then [] else [w] := by
  unfold wordsL
  rw [sp_last w h, List.filter_cons]
  cases w <;> simp

theorem decDigits_digL (n : Nat) : (Lib.decDigits n).map (fun b => (b.toNat : Int)) = digL n := by
  induction n using Nat.strongRecOn with
  | ind n ih =>
    rw [Lib.decDigits, digL]
    by_cases h : n < 10
    · rw [dif_pos h, if_pos h]
      have : (UInt8.ofNat (48 + n)).toNat = 48 + n := by rw [UInt8.toNat_ofNat']; omega
      simp only [List.map_cons, List.map_nil, this]; rfl
    · rw [dif_neg h, if_neg h, List.map_append, ih (n / 10) (by omega)]
      have : (UInt8.ofNat (48 + n % 10)).toNat = 48 + n % 10 := by rw [UInt8.toNat_ofNat']; omega
      simp only [List.map_cons, List.map_nil, this]; rfl
theorem itoa_eq (x : Int) (h0 : 0 ≤ x) (h1 : x ≤ 9223372036854775807) : strconv_Itoa.f x = some (strOfNums (digL x.toNat)) := by
  unfold strconv_Itoa.f itoaB Lib.itoa
  rw [if_pos ⟨by omega, h1⟩, if_neg (by omega)]
  congr 1
  apply ba_ext
  rw [bytes_str (digL_isB _)]
  exact decDigits_digL _

theorem parse_digits : ∀ (l : List Int) (acc : Nat), (∀ x ∈ l, isDg x) → (acc + 1) * 10 ^ l.length ≤ 1000000000000000000 → Lib.parseUint10 acc (l.map fun x => UInt8.ofNat x.toNat) = .ok (l.foldl (fun (a : Nat) x => 10 * a + (x - 48).toNat) acc)
  | [], acc, _, _ => rfl
  | x :: r, acc, h, hb => by
    have hx : 48 ≤ x ∧ x ≤ 57 := h x (List.mem_cons_self ..)
    have hc : (UInt8.ofNat x.toNat).toNat = x.toNat := by rw [UInt8.toNat_ofNat']; omega
    have hp : 1 ≤ 10 ^ r.length := Nat.one_le_pow _ _ (by decide)
    rw [List.length_cons, Nat.pow_succ, Nat.mul_comm (10 ^ r.length) 10, ← Nat.mul_assoc] at hb
    have h1 : (acc + 1) * 10 ≤ 1000000000000000000 := Nat.le_trans (Nat.le_mul_of_pos_right _ hp) hb
    have e : acc * 10 + (x.toNat - 48) = 10 * acc + (x - 48).toNat := by omega
    rw [List.map_cons, Lib.parseUint10, hc, if_pos (by omega), if_neg (by omega), if_neg (by omega), e, parse_digits r _ (fun y hy => h y (List.mem_cons_of_mem _ hy)) ?_]
    · rfl
    · exact Nat.le_trans (Nat.mul_le_mul_right _ (by omega)) hb
theorem fold_val : ∀ (l : List Int) (acc : Nat), (∀ x ∈ l, isDg x) → ((l.foldl (fun (a : Nat) x => 10 * a + (x - 48).toNat) acc : Nat) : Int) = l.foldl (fun a x => 10 * a + (x - 48)) (acc : Int)
  | [], acc, _ => rfl
  | x :: r, acc, h => by
    have hx : 48 ≤ x ∧ x ≤ 57 := h x (List.mem_cons_self ..)
    rw [List.foldl_cons, List.foldl_cons, fold_val r _ (fun y hy => h y (List.mem_cons_of_mem _ hy))]
    congr 1
    omega
theorem digL_lt (n : Nat) : n < 10 ^ (digL n).length := by
  induction n using Nat.strongRecOn with
  | ind n ih =>
    rw [digL]
    by_cases h : n < 10
    · rw [if_pos h]; simpa using h
    · rw [if_neg h, List.length_append, List.length_cons, List.length_nil, Nat.pow_succ]
      have := ih (n / 10) (by omega)
      omega
theorem digL_data (n : Nat) : (strOfNums (digL n)).data.toList = (digL n).map fun x => UInt8.ofNat x.toNat := by simp [strOfNums]
theorem atoi_dig (n : Nat) (h : (digL n).length ≤ 18) : strconv_Atoi.f (strOfNums (digL n)) = some ((n : Int), true) := by
  unfold strconv_Atoi.f
  have hs : (strOfNums (digL n)).size ≤ 18 := by rw [strOfNums_size]; exact h
  rw [if_pos (by omega), digL_data]
  have hp := parse_digits (digL n) 0 (digL_dg n) (by
    rw [Nat.zero_add, Nat.one_mul]
    exact Nat.pow_le_pow_right (by decide) h)
  have hv : (digL n).foldl (fun (a : Nat) x => 10 * a + (x - 48).toNat) 0 = n := by
    have h1 := fold_val (digL n) 0 (digL_dg n)
    have h2 := valL_dig n
    unfold valL at h2
    have : ((0 : Nat) : Int) = 0 := rfl
    rw [this, h2] at h1
    omega
  rw [hv] at hp
  have hlt : n < 1000000000000000000 := Nat.lt_of_lt_of_le (digL_lt n) (Nat.pow_le_pow_right (n := 10) (by decide) h)
  have hne : (digL n).length ≥ 1 := (digL_len n).1
  cases hd : digL n with
  | nil => rw [hd] at hne; simp at hne
  | cons x r =>
    have hx : 48 ≤ x ∧ x ≤ 57 := digL_dg n x (by rw [hd]; exact List.mem_cons_self ..)
    have hc : (UInt8.ofNat x.toNat).toNat = x.toNat := by rw [UInt8.toNat_ofNat']; omega
    rw [hd] at hp
    rw [List.map_cons] at hp ⊢
    unfold Lib.atoiAll
    simp only [hc]
    rw [if_neg (by omega)]
    unfold Lib.parseMag
    rw [if_neg (by simp), hp]
    simp only
    rw [if_neg (by omega), if_neg (by omega), if_neg (by omega)]
    rfl

theorem atoiAll_rng (l : List UInt8) (v : Int) (h : Lib.atoiAll l = .ok v) : -9223372036854775808 ≤ v ∧ v ≤ 9223372036854775807 := by
  unfold Lib.atoiAll at h
  split at h
  · cases h
  · rename_i c r
    simp only at h
    split at h
    · cases h
    · cases h
    · rename_i u hu
      split at h
      · cases h
      · split at h
        · cases h
        · rename_i h1 h2
          injection h with h
          subst h
          split
          · rename_i hn
            have : ¬ 9223372036854775808 < u := fun hh => h2 ⟨hn, hh⟩
            omega
          · rename_i hn
            have : ¬ 9223372036854775808 ≤ u := fun hh => h1 ⟨hn, hh⟩
            omega
/-- What is cut off ahead. -/
theorem trim_some (x : ByteArray) : ∃ y, strings_TrimPrefix.f x (⟨#[45]⟩ : ByteArray) = some y ∧ y.size ≤ x.size ∧ ((bytesOf x).getD 0 0 ≠ 45 → y = x) := by
  have h1 : ((⟨#[45]⟩ : ByteArray).size : Int) = 1 := rfl
  unfold strings_TrimPrefix.f internal_stringslite_TrimPrefix.f internal_stringslite_HasPrefix.f
  simp only [h1]
  by_cases c : (x.size : Int) ≥ 1
  · rw [decide_eq_true c]
    simp only [cond_true, if_pos (show (0 : Int) ≤ 1 ∧ (1 : Int) ≤ (x.size : Int) by omega), Option.bind_some, show (1 : Int).toNat = 1 from rfl]
    cases hq : (x.extract 0 1).toList == (⟨#[45]⟩ : ByteArray).toList
    · exact ⟨x, rfl, Nat.le_refl _, fun _ => rfl⟩
    · refine ⟨_, rfl, by rw [ByteArray.size_extract]; omega, fun hne => ?_⟩
      exfalso
      rw [ba_toList_eq, decide_eq_true_eq] at hq
      apply hne
      have h2 := congrArg bytesOf hq
      rw [bytesOf_extract] at h2
      have hl := bytesOf_len x
      have h3 : (bytesOf x).getD 0 0 = ((List.drop 0 (bytesOf x)).take (1 - 0)).getD 0 0 := by
        cases hb : bytesOf x with
        | nil => rfl
        | cons a r => rfl
      rw [h3, h2]; rfl
  · rw [decide_eq_false c]
    exact ⟨x, rfl, Nat.le_refl _, fun _ => rfl⟩
theorem dig_first (n : Nat) : (digL n).getD 0 0 ≠ 45 := by
  have h := (digL_len n).1
  have h2 := digL_dg n _ (getD_mem (show 0 < (digL n).length by omega) 0)
  unfold isDg at h2; omega
theorem readNumber_spec (x : ByteArray) (hx : x.size ≤ 1048576) : ∃ v b, impl_readNumber.f x = some (v, b) ∧ (∀ n : Nat, x = strOfNums (digL n) → (digL n).length ≤ 18 → v = n ∧ b = true) ∧ (b = true → 0 ≤ v → ∃ n : Nat, x = strOfNums (digL n) ∧ (digL n).length ≤ 18 ∧ v = n) := by
  obtain ⟨y, ey, ys, yx⟩ := trim_some x
  have hA : ∃ w c, strconv_Atoi.f x = some (w, c) ∧ (c = true → -9223372036854775808 ≤ w ∧ w ≤ 9223372036854775807) := by
    unfold strconv_Atoi.f
    rw [if_pos (by omega)]
    cases hE : Lib.atoiAll x.data.toList with
    | ok v => exact ⟨v, true, rfl, fun _ => atoiAll_rng _ _ hE⟩
    | range => exact ⟨_, false, rfl, fun h => by cases h⟩
    | _ => exact ⟨0, false, rfl, fun h => by cases h⟩
  obtain ⟨w, c, eA, hw⟩ := hA
  unfold impl_readNumber.f
  simp only [ey, eA, Option.bind_some]
  cases c
  · refine ⟨w, false, rfl, fun n hn hl => ?_, fun h => by cases h⟩
    have := atoi_dig n hl
    rw [← hn, eA] at this; cases this
  simp only [cond_true]
  by_cases h18 : (y.size : Int) ≤ 18
  · rw [decide_eq_true h18]
    have hI : strconv_Itoa.f w = some (itoaB w) := by unfold strconv_Itoa.f; rw [if_pos (hw rfl)]
    simp only [cond_true, hI, Option.bind_some]
    refine ⟨w, _, rfl, fun n hn hl => ?_, fun hb h0 => ?_⟩
    · have := atoi_dig n hl
      rw [← hn, eA] at this
      have e : w = (n : Int) := by injection this with h; injection h
      refine ⟨e, ?_⟩
      have hd : itoaB w = x := by
        have h1 := itoa_eq (n : Int) (by omega) (by have := (hw rfl).2; omega)
        rw [← e, hI] at h1
        rw [Option.some.inj h1, hn, e, Int.toNat_natCast]
      rw [hd]; exact bs_self x
    · rw [ba_toList_eq, decide_eq_true_eq] at hb
      have h1 := itoa_eq w h0 (hw rfl).2
      rw [hI, hb] at h1
      have hxe : x = strOfNums (digL w.toNat) := Option.some.inj h1
      refine ⟨w.toNat, hxe, ?_, by omega⟩
      have hyx : y = x := yx (by rw [hxe, bytes_str (digL_isB _)]; exact dig_first _)
      have hs := strOfNums_size (digL w.toNat)
      rw [← hxe, ← hyx] at hs
      omega
  · rw [decide_eq_false h18]
    refine ⟨w, false, rfl, fun n hn hl => ?_, fun h => by cases h⟩
    exfalso
    apply h18
    have hs := strOfNums_size (digL n)
    rw [← hn] at hs
    omega

noncomputable def rdN (w : ByteArray) : Int × Bool := (impl_readNumber.f w).getD (0, false)
theorem rdN_eq {w : ByteArray} (h : w.size ≤ 1048576) : impl_readNumber.f w = some (rdN w) := by
  obtain ⟨v, b, e, _⟩ := readNumber_spec w h
  unfold rdN; rw [e]; rfl
theorem readNumbers_eq (l : List ByteArray) (hl : l.length ≤ 1048577) (h : ∀ w ∈ l, w.size ≤ 1048576) : impl_readNumbers.f l = some (bif l.all (fun w => (rdN w).2) then (l.map (fun w => (rdN w).1), true) else ([], false)) := by
  unfold impl_readNumbers.f
  obtain ⟨r, h1, h2⟩ := loopO_wf (step := fun s : List Int × Int => impl_readNumbers.s0 l s.1 s.2)
    (fun s => ∃ k : Nat, k ≤ l.length ∧ s.2 = (k : Int) ∧ s.1 = (l.take k).map (fun w => (rdN w).1) ∧ ∀ w ∈ l.take k, (rdN w).2 = true)
    (fun r => (r = .out (l.map (fun w => (rdN w).1)) ∧ ∀ w ∈ l, (rdN w).2 = true) ∨ (r = .ret ([], false) ∧ ∃ w ∈ l, (rdN w).2 = false)) (fun s => l.length - s.2.toNat) (fun s hI => by
      obtain ⟨u, k0⟩ := s
      obtain ⟨k, hk, hk0, hu, hall⟩ := hI
      simp only at hk0 hu
      subst hk0; subst hu
      by_cases c : k < l.length
      · have hm := getD_mem c ByteArray.empty
        simp only [impl_readNumbers.s0, decide_eq_true (show (k : Int) < (l.length : Int) by omega), cond_true, if_pos (show (0 : Int) ≤ (k : Int) ∧ (k : Int) < (l.length : Int) by omega), Int.toNat_natCast, rdN_eq (h _ hm), Option.bind_some]
        cases hb : (rdN (l.getD k ByteArray.empty)).2
        · exact .inr ⟨_, rfl, .inr ⟨rfl, _, hm, hb⟩⟩
        · simp only [Bool.not_true, cond_false]
          rw [if_pos (by simp only [List.length_map, List.length_take, List.length_cons, List.length_nil]; omega), w64_id (by omega) (by omega)]
          refine .inl ⟨_, rfl, ⟨k + 1, by omega, by simp only; omega, ?_, fun w hw => ?_⟩, by simp only; omega⟩
          · simp only
            rw [take_snoc l k c ByteArray.empty, List.map_append]; rfl
          · rw [take_snoc l k c ByteArray.empty] at hw
            rcases List.mem_append.1 hw with hw | hw
            · exact hall w hw
            · rw [List.mem_singleton.1 hw]; exact hb
      · have e : k = l.length := by omega
        simp only [impl_readNumbers.s0]
        rw [decide_eq_false (by omega)]
        rw [e, List.take_length] at hall ⊢
        exact .inr ⟨_, rfl, .inl ⟨rfl, hall⟩⟩) _ (([] : List Int), 0) (Nat.le_refl _) ⟨0, Nat.zero_le _, rfl, rfl, by simp⟩
  rw [h1]
  rcases h2 with ⟨rfl, ha⟩ | ⟨rfl, w, hw, hb⟩
  · rw [List.all_eq_true.2 ha]; rfl
  · have : l.all (fun w => (rdN w).2) = false := List.all_eq_false.2 ⟨w, hw, by rw [hb]; decide⟩
    rw [this]; rfl

theorem index_str (l : List ByteArray) (w : ByteArray) (h : l.length ≤ 1073741824) : slices_Index_string_string.f l w = some (idxOf l ByteArray.empty (fun y => w.toList == y.toList)) := by
  unfold slices_Index_string_string.f
  have := loopO_find (step := fun s => slices_Index_string_string.s0 l w s) (fun k => (k : Int)) l.length (fun k => w.toList == (l.getD k ByteArray.empty).toList) (fun k => (k : Int)) (t := ()) (fun k hk => by
    simp only [slices_Index_string_string.s0, decide_eq_true (show (k : Int) < (l.length : Int) by omega), cond_true, if_pos (show (0 : Int) ≤ (k : Int) ∧ (k : Int) < (l.length : Int) by omega), Int.toNat_natCast]
    rw [w64_id (by omega) (by omega)]
    cases w.toList == (l.getD k ByteArray.empty).toList <;> rfl) (by
    simp only [slices_Index_string_string.s0]
    rw [decide_eq_false (by omega)]; rfl)
  have t : loopO (fun s => slices_Index_string_string.s0 l w s) 0 = _ := this
  rw [t]
  unfold idxOf
  cases (List.range l.length).find? (fun k => w.toList == (l.getD k ByteArray.empty).toList) <;> rfl

theorem refl_laws_eqOp (x : S_Op) : laws_eqOp.f x x = some true := by
  unfold laws_eqOp.f
  simp only [bne_self_eq_false, beq_self_eq_true, Bool.not_true, cond_false, Option.bind_some]

theorem reflF_laws_eqOp (x : S_Op) : laws_eqOp.f x x = some true := by
  unfold laws_eqOp.f
  simp only [bne_self_eq_false, beq_self_eq_true, bs_self, Bool.not_true, cond_false, Option.bind_some]

theorem refl_laws_eqOpS (x : List S_Op) (h : x.length ≤ 1048576) : laws_eqOpS.f x x = some true := by
  have hlen : x.length ≤ 1048576 := h
  unfold laws_eqOpS.f
  rw [show ((x.length : Int) != (x.length : Int)) = false from by simp]
  have := loopO_run (step := fun s => laws_eqOpS.s0 x x s) (fun k => (k : Int)) x.length (r := .out ()) (fun k hk => by
    simp only [laws_eqOpS.s0, decide_eq_true (show (k : Int) < (x.length : Int) by omega), cond_true, if_pos (show (0 : Int) ≤ (k : Int) ∧ (k : Int) < (x.length : Int) by omega), Int.toNat_natCast, refl_laws_eqOp (x.getD k z_Op), bne_self_eq_false, beq_self_eq_true, Bool.not_true, cond_false, Option.bind_some]
    rw [w64_id (by omega) (by omega)]
    rfl) (by
    simp only [laws_eqOpS.s0]
    rw [decide_eq_false (by omega)]; rfl)
  rw [show ((0 : Int)) = ((0 : Nat) : Int) from rfl, this]
  rfl

theorem reflL_laws_eqOpS (x : List S_Op) (h : x.length ≤ 1048576) : laws_eqOpS.f x x = some true := by
  have hlen : x.length ≤ 1048576 := h
  unfold laws_eqOpS.f
  rw [show ((x.length : Int) != (x.length : Int)) = false from by simp]
  have := loopO_run (step := fun s => laws_eqOpS.s0 x x s) (fun k => (k : Int)) x.length (r := .out ()) (fun k hk => by
    simp only [laws_eqOpS.s0, decide_eq_true (show (k : Int) < (x.length : Int) by omega), cond_true, if_pos (show (0 : Int) ≤ (k : Int) ∧ (k : Int) < (x.length : Int) by omega), Int.toNat_natCast, reflF_laws_eqOp (x.getD k z_Op), bne_self_eq_false, beq_self_eq_true, bs_self, Bool.not_true, cond_false, Option.bind_some]
    rw [w64_id (by omega) (by omega)]
    rfl) (by
    simp only [laws_eqOpS.s0]
    rw [decide_eq_false (by omega)]; rfl)
  rw [show ((0 : Int)) = ((0 : Nat) : Int) from rfl, this]
  rfl

theorem refl_laws_eqTxn (x : S_Txn) (h : (x.Ops.length ≤ 1048576)) : laws_eqTxn.f x x = some true := by
  unfold laws_eqTxn.f
  simp only [refl_laws_eqOpS x.Ops h, bne_self_eq_false, beq_self_eq_true, Bool.not_true, cond_false, Option.bind_some]

theorem reflL_laws_eqTxn (x : S_Txn) (h : (x.Ops.length ≤ 1048576)) : laws_eqTxn.f x x = some true := by
  unfold laws_eqTxn.f
  simp only [reflL_laws_eqOpS x.Ops h, bne_self_eq_false, beq_self_eq_true, bs_self, Bool.not_true, cond_false, Option.bind_some]

theorem refl_laws_eqTxnS (x : List S_Txn) (h : x.length ≤ 1048576 ∧ ∀ z0 : S_Txn, z0 ∈ x → ((z0.Ops.length ≤ 1048576))) : laws_eqTxnS.f x x = some true := by
  have hlen : x.length ≤ 1048576 := h.1
  unfold laws_eqTxnS.f
  rw [show ((x.length : Int) != (x.length : Int)) = false from by simp]
  have := loopO_run (step := fun s => laws_eqTxnS.s0 x x s) (fun k => (k : Int)) x.length (r := .out ()) (fun k hk => by
    simp only [laws_eqTxnS.s0, decide_eq_true (show (k : Int) < (x.length : Int) by omega), cond_true, if_pos (show (0 : Int) ≤ (k : Int) ∧ (k : Int) < (x.length : Int) by omega), Int.toNat_natCast, refl_laws_eqTxn (x.getD k z_Txn) (h.2 _ (getD_mem hk _)), bne_self_eq_false, beq_self_eq_true, Bool.not_true, cond_false, Option.bind_some]
    rw [w64_id (by omega) (by omega)]
    rfl) (by
    simp only [laws_eqTxnS.s0]
    rw [decide_eq_false (by omega)]; rfl)
  rw [show ((0 : Int)) = ((0 : Nat) : Int) from rfl, this]
  rfl

theorem reflL_laws_eqTxnS (x : List S_Txn) (h : x.length ≤ 1048576 ∧ ∀ z0 : S_Txn, z0 ∈ x → ((z0.Ops.length ≤ 1048576))) : laws_eqTxnS.f x x = some true := by
  have hlen : x.length ≤ 1048576 := h.1
  unfold laws_eqTxnS.f
  rw [show ((x.length : Int) != (x.length : Int)) = false from by simp]
  have := loopO_run (step := fun s => laws_eqTxnS.s0 x x s) (fun k => (k : Int)) x.length (r := .out ()) (fun k hk => by
    simp only [laws_eqTxnS.s0, decide_eq_true (show (k : Int) < (x.length : Int) by omega), cond_true, if_pos (show (0 : Int) ≤ (k : Int) ∧ (k : Int) < (x.length : Int) by omega), Int.toNat_natCast, reflL_laws_eqTxn (x.getD k z_Txn) (h.2 _ (getD_mem hk _)), bne_self_eq_false, beq_self_eq_true, bs_self, Bool.not_true, cond_false, Option.bind_some]
    rw [w64_id (by omega) (by omega)]
    rfl) (by
    simp only [laws_eqTxnS.s0]
    rw [decide_eq_false (by omega)]; rfl)
  rw [show ((0 : Int)) = ((0 : Nat) : Int) from rfl, this]
  rfl

def F_laws_markOpS (q : Int) (x : S_Op) : S_Op := ⟨q, (q + 1), (q + 2)⟩
theorem mk_laws_markOpS (x : List S_Op) (k : Int) (h0 : 0 ≤ k) (h1 : k ≤ 144115188075855872) (hl : x.length ≤ 1048576) : ∃ m a, laws_markOpS.f x k = some (m, a) ∧ k ≤ m ∧ m ≤ k + 3145728 ∧ a.length = x.length ∧ laws_heldOpS.f a k = some m := by
  have hm := mark_gen (ρ := Int × List S_Op) x z_Op F_laws_markOpS 3 k (fun s => laws_markOpS.s0 x s.1 s.2.1 s.2.2) (by decide) (fun i u q hi hu hg hq1 hq2 => by
    have w1 : w64 (q + 1) = q + 1 := by rw [w64_id (by omega) (by omega)]
    have w2 : w64 (q + 1 + 1) = q + 2 := by rw [w64_id (by omega) (by omega)]; omega
    have w3 : w64 (q + 2 + 1) = q + 3 := by rw [w64_id (by omega) (by omega)]; omega
    have wi : w64 ((i : Int) + 1) = ((i + 1 : Nat) : Int) := by rw [w64_id (by omega) (by omega)]; omega
    simp only [laws_markOpS.s0, decide_eq_true (show (i : Int) < (x.length : Int) by omega), cond_true, if_pos (show (0 : Int) ≤ (i : Int) ∧ (i : Int) < (x.length : Int) by omega), Int.toNat_natCast, Option.bind_some, w1, w2, w3, wi, List.set_set, getD_set_self _ z_Op _ (show i < u.length by omega), getD_set_self _ z_Op _ (show i < (u.set i _).length by simp; omega), F_laws_markOpS]) (fun u q => by simp only [laws_markOpS.s0]; rw [decide_eq_false (by omega)]; rfl)
  refine ⟨k + 3 * x.length, mkL x z_Op F_laws_markOpS 3 k, ?_, by omega, by omega, mkL_len .., ?_⟩
  · unfold laws_markOpS.f; rw [hm]; rfl
  · have hy := mkL_len x z_Op F_laws_markOpS 3 k
    have hh := held_gen (ρ := Int) (mkL x z_Op F_laws_markOpS 3 k) 3 k (fun s => laws_heldOpS.s0 (mkL x z_Op F_laws_markOpS 3 k) s.1 s.2) (by decide) (fun i hi hq2 hq1 => by
    have hg := mkL_getD x z_Op F_laws_markOpS 3 k (show i < x.length by omega)
    generalize hqq : k + 3 * (i : Int) = q at hg hq1 hq2 ⊢
    rw [hy] at hi hq2
    have w1 : w64 (q + 1) = q + 1 := by rw [w64_id (by omega) (by omega)]
    have w2 : w64 (q + 1 + 1) = q + 2 := by rw [w64_id (by omega) (by omega)]; omega
    have w3 : w64 (q + 2 + 1) = q + 3 := by rw [w64_id (by omega) (by omega)]; omega
    have wi : w64 ((i : Int) + 1) = ((i + 1 : Nat) : Int) := by rw [w64_id (by omega) (by omega)]; omega
    simp only [laws_heldOpS.s0, hy, decide_eq_true (show (i : Int) < (x.length : Int) by omega), cond_true, if_pos (show (0 : Int) ≤ (i : Int) ∧ (i : Int) < (x.length : Int) by omega), Int.toNat_natCast, Option.bind_some, w1, w2, w3, wi, hg, F_laws_markOpS, bne_self_eq_false, beq_self_eq_true, bs_self, Bool.not_true, cond_false]) (fun q => by simp only [laws_heldOpS.s0]; rw [decide_eq_false (by omega)]; rfl)
    rw [hy] at hh
    unfold laws_heldOpS.f; rw [hh]; rfl

theorem mk_laws_markTxnS (x : List S_Txn) (k : Int) (h0 : 0 ≤ k) (h1 : k ≤ 144111889540972544) (hl : x.length ≤ 1048576 ∧ ∀ z0 : S_Txn, z0 ∈ x → ((z0.Ops.length ≤ 1048576))) : ∃ m a, laws_markTxnS.f x k = some (m, a) ∧ k ≤ m ∧ m ≤ k + 3298534883328 ∧ a.length = x.length ∧ laws_heldTxnS.f a k = some m := by
  obtain ⟨hl1, hl2⟩ := hl
  obtain ⟨a, m, e1, e2, e3, e4, qs, e5, e6, e7⟩ := mark_gen2 (ρ := Int × (List S_Txn)) x z_Txn 3145728 k (fun e q q2 => laws_heldOpS.f e.Ops q = some q2) (fun s => laws_markTxnS.s0 x s.1 s.2.1 s.2.2) (by decide) (fun i u q hi hu hg hq1 hq2 => by
    have wi : w64 ((i : Int) + 1) = ((i + 1 : Nat) : Int) := by rw [w64_id (by omega) (by omega)]; omega
    obtain ⟨m2, b, f1, f2, f3, f4, f5⟩ := mk_laws_markOpS (x.getD i z_Txn).Ops q (by omega) (by omega) (hl2 _ (getD_mem hi _))
    refine ⟨⟨b⟩, m2, ?_, by omega, by omega, f5⟩
    simp only [laws_markTxnS.s0, decide_eq_true (show (i : Int) < (x.length : Int) by omega), cond_true, if_pos (show (0 : Int) ≤ (i : Int) ∧ (i : Int) < (x.length : Int) by omega), Int.toNat_natCast, wi, List.set_set, getD_set_self _ z_Txn _ (show i < u.length by omega), hg, f1, Option.bind_some]) (fun u q => by simp only [laws_markTxnS.s0]; rw [decide_eq_false (by omega)]; rfl)
  refine ⟨m, a, ?_, e3, by omega, e2, ?_⟩
  · unfold laws_markTxnS.f; rw [e1]; rfl
  · have hh := held_gen2 (ρ := Int) x.length qs (fun s => laws_heldTxnS.s0 a s.1 s.2) (fun i hi => by
      obtain ⟨g1, g2, g3⟩ := e7 i hi
      generalize qs i = q at g1 g2 g3 ⊢
      have wi : w64 ((i : Int) + 1) = ((i + 1 : Nat) : Int) := by rw [w64_id (by omega) (by omega)]; omega
      have g5 := g3
      have g6 : ¬ qs (i + 1) < 0 := by
        by_cases hj : i + 1 < x.length
        · have := (e7 (i + 1) hj).1; omega
        · have : i + 1 = x.length := by omega
          rw [this, e6]; omega
      simp only [laws_heldTxnS.s0, e2, decide_eq_true (show (i : Int) < (x.length : Int) by omega), cond_true, if_pos (show (0 : Int) ≤ (i : Int) ∧ (i : Int) < (x.length : Int) by omega), Int.toNat_natCast, wi, bne_self_eq_false, cond_false, g5, Option.bind_some, decide_eq_false g6]) (fun q => by simp only [laws_heldTxnS.s0]; rw [decide_eq_false (by omega)]; rfl)
    rw [e5, e6] at hh
    unfold laws_heldTxnS.f; rw [hh]; rfl

/-- A loop that takes what each word tells, and ends where one tells nothing. -/
theorem collect {α ρ σ : Type} (l : List ByteArray) (p : ByteArray → α × Bool) (bad : ρ) (mk : Nat → List α → σ) (idx : σ → Nat) (hidx : ∀ k u, idx (mk k u) = k) (step : σ → Option (σ ⊕ Ex (List α) ρ))
    (hin : ∀ k, k < l.length → ∀ u : List α, u.length = k → step (mk k u) = some (bif (p (l.getD k ByteArray.empty)).2 then .inl (mk (k + 1) (u ++ [(p (l.getD k ByteArray.empty)).1])) else .inr (.ret bad)))
    (hout : ∀ u, step (mk l.length u) = some (.inr (.out u))) :
    loopO step (mk 0 []) = some (bif l.all (fun w => (p w).2) then .out (l.map (fun w => (p w).1)) else .ret bad) := by
  obtain ⟨r, h1, h2⟩ := loopO_wf (step := step)
    (fun s => ∃ k : Nat, k ≤ l.length ∧ s = mk k ((l.take k).map (fun w => (p w).1)) ∧ ∀ w ∈ l.take k, (p w).2 = true)
    (fun r => (r = .out (l.map (fun w => (p w).1)) ∧ ∀ w ∈ l, (p w).2 = true) ∨ (r = .ret bad ∧ ∃ w ∈ l, (p w).2 = false)) (fun s => l.length - idx s) (fun s hI => by
      obtain ⟨k, hk, rfl, hall⟩ := hI
      by_cases c : k < l.length
      · have hm := getD_mem c ByteArray.empty
        rw [hin k c _ (by simp only [List.length_map, List.length_take]; omega)]
        cases hb : (p (l.getD k ByteArray.empty)).2
        · exact .inr ⟨_, rfl, .inr ⟨rfl, _, hm, hb⟩⟩
        · refine .inl ⟨_, rfl, ⟨k + 1, by omega, ?_, fun w hw => ?_⟩, by rw [hidx, hidx]; omega⟩
          · rw [take_snoc l k c ByteArray.empty, List.map_append]; rfl
          · rw [take_snoc l k c ByteArray.empty] at hw
            rcases List.mem_append.1 hw with hw | hw
            · exact hall w hw
            · rw [List.mem_singleton.1 hw]; exact hb
      · obtain rfl : k = l.length := by omega
        rw [hout]
        rw [List.take_length] at hall ⊢
        exact .inr ⟨_, rfl, .inl ⟨rfl, hall⟩⟩) _ (mk 0 []) (Nat.le_refl _) ⟨0, Nat.zero_le _, rfl, by simp⟩
  rw [h1]
  rcases h2 with ⟨rfl, ha⟩ | ⟨rfl, w, hw, hb⟩
  · rw [List.all_eq_true.2 ha]; rfl
  · have : l.all (fun w => (p w).2) = false := List.all_eq_false.2 ⟨w, hw, by rw [hb]; decide⟩
    rw [this]; rfl

/-! A text cut at a sign. -/
def spc (d : Int) : List Int → List (List Int)
  | [] => [[]]
  | c :: r => if c = d then [] :: spc d r else match spc d r with
    | [] => [[c]]
    | w :: ws => (c :: w) :: ws
theorem spc_word (d : Int) (r : List Int) : ∀ w : List Int, (∀ x ∈ w, x ≠ d) → spc d (w ++ d :: r) = w :: spc d r
  | [], _ => by simp [spc]
  | c :: w, h => by
    rw [List.cons_append, spc, if_neg (h c (List.mem_cons_self ..)), spc_word d r w (fun x hx => h x (List.mem_cons_of_mem _ hx))]
theorem spc_last (d : Int) : ∀ w : List Int, (∀ x ∈ w, x ≠ d) → spc d w = [w]
  | [], _ => rfl
  | c :: w, h => by rw [spc, if_neg (h c (List.mem_cons_self ..)), spc_last d w (fun x hx => h x (List.mem_cons_of_mem _ hx))]
theorem spc_len (d : Int) : ∀ (l : List Int), ∀ w ∈ spc d l, w.length ≤ l.length
  | [], w, h => by simp [spc] at h; subst h; simp
  | c :: r, w, h => by
    rw [spc] at h
    split at h
    · rcases List.mem_cons.1 h with rfl | h
      · simp
      · have := spc_len d r w h; rw [List.length_cons]; omega
    · split at h
      · simp at h; subst h; simp
      · rename_i w0 ws e
        rcases List.mem_cons.1 h with rfl | h
        · have := spc_len d r w0 (by rw [e]; exact List.mem_cons_self ..)
          simp only [List.length_cons]; omega
        · have := spc_len d r w (by rw [e]; exact List.mem_cons_of_mem _ h)
          rw [List.length_cons]; omega
theorem u8_of (b c : UInt8) : ((b.toNat : Int) = (c.toNat : Int)) ↔ b = c := by
  constructor
  · intro h
    have : b.toNat = c.toNat := by omega
    exact UInt8.toNat_inj.1 this
  · rintro rfl; rfl
theorem sign_miss (c : UInt8) (s : ByteArray) (h : Lib.indexB s (⟨#[c]⟩ : ByteArray) = -1) : ∀ x ∈ bytesOf s, x ≠ (c.toNat : Int) := by
  have h2 : Lib.indexByte s.data.toList c = -1 := (Lib.index_one s.data.toList c).symm.trans h
  intro x hx e
  obtain ⟨b, hb, rfl⟩ := List.mem_map.1 hx
  obtain ⟨k, hk, rfl⟩ := List.mem_iff_getElem.1 hb
  exact Lib.indexByte_none h2 k (by rw [List.getElem?_eq_getElem hk, (u8_of _ _).1 e])
theorem sign_hit (c : UInt8) (s : ByteArray) (i : Nat) (h : Lib.indexB s (⟨#[c]⟩ : ByteArray) = i) : bytesOf s = (bytesOf s).take i ++ (c.toNat : Int) :: (bytesOf s).drop (i + 1) ∧ ∀ x ∈ (bytesOf s).take i, x ≠ (c.toNat : Int) := by
  have h2 : Lib.indexByte s.data.toList c = i := (Lib.index_one s.data.toList c).symm.trans h
  obtain ⟨h3, h4⟩ := Lib.indexByte_some h2
  have hb : (bytesOf s)[i]? = some (c.toNat : Int) := by unfold bytesOf; rw [List.getElem?_map, h3]; rfl
  obtain ⟨hi, he⟩ := List.getElem?_eq_some_iff.1 hb
  refine ⟨?_, fun x hx e => ?_⟩
  · conv => lhs; rw [← List.take_append_drop i (bytesOf s), List.drop_eq_getElem_cons hi, he]
  · obtain ⟨k, hk, rfl⟩ := List.mem_iff_getElem.1 hx
    rw [List.length_take] at hk
    rw [List.getElem_take] at e
    have hk2 : k < s.data.toList.length := by have : (bytesOf s).length = s.data.toList.length := by simp [bytesOf]
                                              omega
    refine h4 k (by omega) ?_
    rw [List.getElem?_eq_getElem hk2]
    have : (bytesOf s)[k] = ((s.data.toList[k]).toNat : Int) := by simp [bytesOf]
    rw [this] at e
    rw [(u8_of _ _).1 e]
theorem splitB_spc (c : UInt8) : ∀ (k : Nat) (s : ByteArray), Lib.countB s (⟨#[c]⟩ : ByteArray) = k → (Lib.splitB (⟨#[c]⟩ : ByteArray) 0 k s).map bytesOf = spc (c.toNat : Int) (bytesOf s)
  | 0, s, hk => by
    rcases Lib.indexB_cases s (⟨#[c]⟩ : ByteArray) with hix | ⟨i, hix, _⟩
    · rw [Lib.splitB_zero, spc_last _ _ (sign_miss c s hix)]; rfl
    · have := Lib.countB_hit s (⟨#[c]⟩ : ByteArray) i (Nat.le_refl 1) hix
      omega
  | k + 1, s, hk => by
    rcases Lib.indexB_cases s (⟨#[c]⟩ : ByteArray) with hix | ⟨i, hix, hroom⟩
    · rw [Lib.countB_miss s _ hix] at hk; omega
    · have hc := Lib.countB_hit s (⟨#[c]⟩ : ByteArray) i (Nat.le_refl 1) hix
      obtain ⟨h1, h2⟩ := sign_hit c s i hix
      have hl := bytesOf_len s
      have h1s : (⟨#[c]⟩ : ByteArray).size = 1 := rfl
      rw [h1s] at hroom
      have ih := splitB_spc c k (s.extract (i + (⟨#[c]⟩ : ByteArray).size) s.size) (by omega)
      rw [Lib.splitB_hit _ 0 k s i hix, List.map_cons, ih, bytesOf_extract, bytesOf_extract, h1s]
      conv => rhs; rw [h1, spc_word _ _ _ h2]
      rw [List.take_of_length_le (l := (bytesOf s).drop (i + 1)) (by rw [List.length_drop]; omega)]
      simp
theorem split_eqc (c : UInt8) (x : ByteArray) (hx : x.size ≤ 1048576) : ∃ l, strings_Split.f x (⟨#[c]⟩ : ByteArray) = some l ∧ l.map bytesOf = spc (c.toNat : Int) (bytesOf x) ∧ l.length ≤ 1048577 ∧ ∀ w ∈ l, w.size ≤ 1048576 := by
  unfold strings_Split.f
  rw [if_pos ⟨by omega, Nat.le_refl 1⟩]
  have e := splitB_spc c _ x rfl
  refine ⟨_, rfl, e, ?_, fun w hm => ?_⟩
  · rw [Lib.splitB_all (⟨#[c]⟩ : ByteArray) (Nat.le_refl 1) 0 _ x rfl]
    have := Lib.countB_le (⟨#[c]⟩ : ByteArray) (Nat.le_refl 1) x.size x (Nat.le_refl _)
    omega
  · have := spc_len _ (bytesOf x) (bytesOf w) (by rw [← e]; exact List.mem_map.2 ⟨w, hm, rfl⟩)
    rw [bytesOf_len, bytesOf_len] at this
    omega

theorem l00Words_eq (x : ByteArray) (hx : x.size ≤ 1048576) : ∃ l, spec_l00Words.f x = some l ∧ l.map bytesOf = wordsL (bytesOf x) := by
  have hl := bytesOf_len x
  unfold spec_l00Words.f
  obtain ⟨r, h1, h2⟩ := loopO_wf (step := fun s : List ByteArray × Int × Int => spec_l00Words.s0 x s.1 s.2.1 s.2.2)
    (fun t => ∃ s i : Nat, t.2.1 = (s : Int) ∧ t.2.2 = (i : Int) ∧ i ≤ x.size + 1 ∧ s ≤ i ∧ t.1.length ≤ i ∧ (i ≤ x.size → (∀ y ∈ ((bytesOf x).drop s).take (i - s), y ≠ 32) ∧ t.1.map bytesOf ++ wordsL ((bytesOf x).drop s) = wordsL (bytesOf x)) ∧ (i = x.size + 1 → t.1.map bytesOf = wordsL (bytesOf x)))
    (fun r => ∃ l, r = .out l ∧ l.map bytesOf = wordsL (bytesOf x)) (fun t => x.size + 1 - t.2.2.toNat) (fun t hI => by
      obtain ⟨acc, s0, i0⟩ := t
      obtain ⟨s, i, hs, hi, hil, hsi, hal, hA, hB⟩ := hI
      simp only at hs hi hal hA hB
      subst hs; subst hi
      by_cases c : i ≤ x.size
      · obtain ⟨hno, hw⟩ := hA c
        have hadd : ∀ sep : Bool, (((bif (decide ((i : Int) > (s : Int))) then (if 0 ≤ (s : Int) ∧ (s : Int) ≤ (i : Int) ∧ (i : Int) ≤ (x.size : Int) then (if acc.length + ([(x.extract (s : Int).toNat (i : Int).toNat)]).length ≤ 1073741824 then (some (acc ++ ([(x.extract (s : Int).toNat (i : Int).toNat)]))) else none) else none) else (some acc)) : Option ((List ByteArray)))) = some (acc ++ if i > s then [x.extract s i] else []) := fun _ => by
          by_cases g : i > s
          · rw [decide_eq_true (show (i : Int) > (s : Int) by omega), if_pos g, cond_true, if_pos (by omega), if_pos (by simp only [List.length_cons, List.length_nil]; omega)]; rfl
          · rw [decide_eq_false (show ¬ (i : Int) > (s : Int) by omega), if_neg g, List.append_nil]; rfl
        have hword : ((acc ++ if i > s then [x.extract s i] else []).map bytesOf) = acc.map bytesOf ++ (if ((bytesOf x).drop s).take (i - s) = [] then [] else [((bytesOf x).drop s).take (i - s)]) := by
          rw [List.map_append]
          congr 1
          by_cases g : i > s
          · rw [if_pos g, if_neg (fun e => by
              have := congrArg List.length e
              rw [List.length_take, List.length_drop, List.length_nil] at this; omega)]
            simp [bytesOf_extract]
          · rw [if_neg g, if_pos (by rw [show i - s = 0 by omega]; rfl)]; rfl
        have hlen : (acc ++ if i > s then [x.extract s i] else []).length ≤ i + 1 := by
          rw [List.length_append]; split <;> simp <;> omega
        simp only [spec_l00Words.s0, decide_eq_true (show (i : Int) ≤ (x.size : Int) by omega), cond_true, hadd true]
        by_cases ce : i = x.size
        · rw [show ((i : Int) == (x.size : Int)) = true by rw [beq_iff_eq]; omega]
          simp only [cond_true, Option.bind_some]
          rw [w64_id (by omega) (by omega)]
          refine .inl ⟨_, rfl, ⟨i + 1, i + 1, by simp only; omega, by simp only; omega, by omega, Nat.le_refl _, hlen, fun h => by omega, fun _ => ?_⟩, by simp only; omega⟩
          simp only
          have hd : ((bytesOf x).drop s).take (i - s) = (bytesOf x).drop s := List.take_of_length_le (by rw [List.length_drop]; omega)
          rw [hword, ← hw, hd]
          rw [hd] at hno
          rw [wordsL_last _ hno]
        · rw [show ((i : Int) == (x.size : Int)) = false by rw [beq_eq_false_iff_ne]; omega]
          have hb := byteAt_eq x (i : Int) (by omega) (by omega)
          rw [Int.toNat_natCast] at hb
          simp only [cond_false, if_pos (show (0 : Int) ≤ (i : Int) ∧ (i : Int) < (x.size : Int) by omega), Option.bind_some, hb]
          have hsplit : (bytesOf x).drop s = ((bytesOf x).drop s).take (i - s) ++ (bytesOf x).getD i 0 :: (bytesOf x).drop (i + 1) := by
            conv => lhs; rw [← List.take_append_drop (i - s) ((bytesOf x).drop s)]
            rw [List.drop_drop, show s + (i - s) = i by omega, List.drop_eq_getElem_cons (show i < (bytesOf x).length by omega), getD_lt (show i < (bytesOf x).length by omega)]
          cases h32 : (bytesOf x).getD i 0 == 32
          · simp only [cond_false, Option.bind_some]
            rw [w64_id (by omega) (by omega)]
            refine .inl ⟨_, rfl, ⟨s, i + 1, rfl, by simp only; omega, by omega, by omega, by simp only; omega, fun _ => ⟨fun y hy => ?_, hw⟩, fun h => by omega⟩, by simp only; omega⟩
            rw [show i + 1 - s = (i - s) + 1 by omega, take_snoc _ (i - s) (by rw [List.length_drop]; omega) 0] at hy
            rcases List.mem_append.1 hy with hy | hy
            · exact hno y hy
            · rw [List.mem_singleton.1 hy]
              have e : ((bytesOf x).drop s).getD (i - s) 0 = (bytesOf x).getD i 0 := by
                rw [List.getD_eq_getElem?_getD, List.getElem?_drop, show s + (i - s) = i by omega, ← List.getD_eq_getElem?_getD]
              rw [e]
              intro e2
              rw [e2] at h32; cases h32
          · simp only [cond_true, Option.bind_some]
            rw [w64_id (by omega) (by omega)]
            refine .inl ⟨_, rfl, ⟨i + 1, i + 1, by simp only; omega, by simp only; omega, by omega, Nat.le_refl _, hlen, fun _ => ⟨fun y hy => by simp at hy, ?_⟩, fun h => by omega⟩, by simp only; omega⟩
            simp only
            rw [beq_iff_eq] at h32
            rw [h32] at hsplit
            rw [hword, ← hw]
            conv => rhs; rw [hsplit, wordsL_word _ _ hno]
            rw [List.append_assoc]
      · simp only [spec_l00Words.s0]
        rw [decide_eq_false (by omega)]
        exact .inr ⟨_, rfl, acc, rfl, hB (by omega)⟩) _ (([] : List ByteArray), 0, 0) (Nat.le_refl _) ⟨0, 0, rfl, rfl, by omega, Nat.le_refl _, by simp, fun _ => ⟨by simp, by simp⟩, fun h => by omega⟩
  rw [h1]
  obtain ⟨l, rfl, h3⟩ := h2
  exact ⟨l, rfl, h3⟩
/-- What both sides read. -/
theorem words_both (x : ByteArray) (hx : x.size ≤ 1048576) : ∃ W : List ByteArray, spec_l00Words.f x = some W ∧ impl_wordsOf.f x = some W ∧ W.length ≤ 1048577 ∧ (∀ w ∈ W, w.size ≤ 1048576) ∧ ∀ w ∈ W, w ≠ (⟨#[]⟩ : ByteArray) := by
  obtain ⟨l, e1, m1, h1, h2⟩ := wordsOf_eq x hx
  obtain ⟨l2, e2, m2⟩ := l00Words_eq x hx
  have inj : ∀ a b : List ByteArray, a.map bytesOf = b.map bytesOf → a = b := by
    intro a
    induction a with
    | nil => intro b h; cases b with
      | nil => rfl
      | cons y r => cases h
    | cons y r ih => intro b h; cases b with
      | nil => cases h
      | cons z q =>
        simp only [List.map_cons, List.cons.injEq] at h
        rw [ba_ext h.1, ih q h.2]
  have e := inj l l2 (m1.trans m2.symm)
  subst e
  refine ⟨l, e2, e1, h1, h2, fun w hw he => ?_⟩
  have : bytesOf w ∈ wordsL (bytesOf x) := by rw [← m1]; exact List.mem_map.2 ⟨w, hw, rfl⟩
  have h3 := (List.mem_filter.1 this).2
  subst he
  exact absurd h3 (by decide)

noncomputable def sdN (w : ByteArray) : Int × Bool := (spec_l09Number.f w).getD (0, false)
theorem sdN_eq {w : ByteArray} (h : w.size ≤ 1048576) : spec_l09Number.f w = some (sdN w) := by
  obtain ⟨v, b, e, _⟩ := l09Number_spec w h
  unfold sdN; rw [e]; rfl
theorem num_rel {w : ByteArray} (h : w.size ≤ 1048576) : ((sdN w).2 = true → (rdN w).2 = true ∧ (rdN w).1 = (sdN w).1) ∧ ((rdN w).2 = true → 0 ≤ (rdN w).1 → (sdN w).2 = true ∧ (sdN w).1 = (rdN w).1) := by
  obtain ⟨v, b, e, h1, h2⟩ := l09Number_spec w h
  obtain ⟨v', b', e', h1', h2'⟩ := readNumber_spec w h
  have es : sdN w = (v, b) := by unfold sdN; rw [e]; rfl
  have er : rdN w = (v', b') := by unfold rdN; rw [e']; rfl
  rw [es, er]
  constructor
  · intro hb
    obtain ⟨n, hn, hl, hv⟩ := h2 hb
    obtain ⟨a, c⟩ := h1' n hn hl
    exact ⟨c, by simp only; rw [a, hv]⟩
  · intro hb h0
    obtain ⟨n, hn, hl, hv⟩ := h2' hb h0
    obtain ⟨a, c⟩ := h1 n hn hl
    exact ⟨c, by simp only; rw [a, hv]⟩

def opW : List ByteArray := [(⟨#[]⟩ : ByteArray), (⟨#[103, 101, 116]⟩ : ByteArray), (⟨#[112, 117, 116]⟩ : ByteArray), (⟨#[100, 114, 111, 112]⟩ : ByteArray), (⟨#[99, 104, 101, 99, 107]⟩ : ByteArray), (⟨#[97, 100, 100]⟩ : ByteArray), (⟨#[115, 99, 97, 110]⟩ : ByteArray)]
def accK (w : ByteArray) : Nat → Int
  | 0 => 0
  | j + 1 => bif (opW.getD (j + 1) ByteArray.empty).toList == w.toList then ((j + 1 : Nat) : Int) else accK w j
theorem kind_cases (w : ByteArray) (hw : w ≠ (⟨#[]⟩ : ByteArray)) : (1 ≤ accK w 6 ∧ accK w 6 ≤ 6 ∧ idxOf opW ByteArray.empty (fun y => w.toList == y.toList) = accK w 6) ∨ (accK w 6 = 0 ∧ idxOf opW ByteArray.empty (fun y => w.toList == y.toList) = -1) := by
  by_cases h1 : w = (⟨#[103, 101, 116]⟩ : ByteArray)
  · subst h1; left; decide +kernel
  by_cases h2 : w = (⟨#[112, 117, 116]⟩ : ByteArray)
  · subst h2; left; decide +kernel
  by_cases h3 : w = (⟨#[100, 114, 111, 112]⟩ : ByteArray)
  · subst h3; left; decide +kernel
  by_cases h4 : w = (⟨#[99, 104, 101, 99, 107]⟩ : ByteArray)
  · subst h4; left; decide +kernel
  by_cases h5 : w = (⟨#[97, 100, 100]⟩ : ByteArray)
  · subst h5; left; decide +kernel
  by_cases h6 : w = (⟨#[115, 99, 97, 110]⟩ : ByteArray)
  · subst h6; left; decide +kernel
  right
  have hne : ∀ y ∈ opW, w ≠ y := by
    intro y hy
    simp only [opW, List.mem_cons, List.not_mem_nil, or_false] at hy
    rcases hy with rfl | rfl | rfl | rfl | rfl | rfl | rfl <;> assumption
  constructor
  · have hk : ∀ j, j ≤ 6 → accK w j = 0 := by
      intro j
      induction j with
      | zero => intro _; rfl
      | succ j ih =>
        intro hj
        have := hne _ (getD_mem (show j + 1 < opW.length by show j + 1 < 7; omega) ByteArray.empty)
        rw [accK, ba_toList_eq, decide_eq_false (fun e => this e.symm)]
        exact ih (by omega)
    exact hk 6 (Nat.le_refl _)
  · unfold idxOf
    have : (List.range opW.length).find? (fun k => w.toList == (opW.getD k ByteArray.empty).toList) = none := by
      rw [List.find?_eq_none]
      intro k hk
      have := hne _ (getD_mem (List.mem_range.1 hk) ByteArray.empty)
      rw [ba_toList_eq, decide_eq_false this]; decide
    rw [this]
theorem kind_loop (W : List ByteArray) (hW : 1 ≤ W.length) : loopO (fun s : Int × Int => spec_l09ToOp.s0 W opW s.1 s.2) (1, 0) = some (.out (accK (W.getD 0 ByteArray.empty) 6)) := by
  have h := loopO_run (step := fun s : Int × Int => spec_l09ToOp.s0 W opW s.1 s.2) (fun j => (1 + (j : Int), accK (W.getD 0 ByteArray.empty) j)) 6 (r := .out (accK (W.getD 0 ByteArray.empty) 6)) (fun j hj => by
    have hl : (opW.length : Int) = 7 := rfl
    have h0 : (0 : Int).toNat = 0 := rfl
    simp only [spec_l09ToOp.s0, hl, h0, decide_eq_true (show (1 : Int) + (j : Int) < 7 by omega), cond_true, if_pos (show (0 : Int) ≤ 1 + (j : Int) ∧ 1 + (j : Int) < 7 by omega), if_pos (show (0 : Int) ≤ (0 : Int) ∧ (0 : Int) < (W.length : Int) by omega), show ((1 : Int) + (j : Int)).toNat = j + 1 by omega]
    rw [w64_id (by omega) (by omega)]
    rw [accK]
    cases (opW.getD (j + 1) ByteArray.empty).toList == (W.getD 0 ByteArray.empty).toList
    · simp only [cond_false, Option.bind_some]
      rw [show (1 : Int) + (j : Int) + 1 = 1 + ((j + 1 : Nat) : Int) by omega]
    · simp only [cond_true, Option.bind_some]
      rw [show (1 : Int) + (j : Int) + 1 = 1 + ((j + 1 : Nat) : Int) by omega, show (1 : Int) + (j : Int) = ((j + 1 : Nat) : Int) by omega]) rfl
  rw [show (1 : Int) + ((0 : Nat) : Int) = 1 from rfl] at h
  exact h
theorem op_bad {k a b : Int} (h : k < 1 ∨ a < 1 ∨ b < 0) : opOK ⟨k, a, b⟩ = false := by
  cases e : opOK ⟨k, a, b⟩
  · rfl
  · have := opOK_parts e
    simp only at this
    omega
theorem readOp_both (x : ByteArray) (hx : x.size ≤ 1048576) : ∃ r : S_Op × Bool, spec_l09ToOp.f x = some r ∧ impl_readOp.f x = some r ∧ (r.2 = false → r.1 = ⟨0, 0, 0⟩) := by
  obtain ⟨W, e1, e2, hlen, hsz, hne⟩ := words_both x hx
  have ew : spec_l09Words.f = some opW := rfl
  have eo : impl_opWords.f = some opW := rfl
  have hr := readNumbers_eq (W.drop 1) (by rw [List.length_drop]; omega) (fun w hw => hsz w (List.mem_of_mem_drop hw))
  unfold spec_l09ToOp.f impl_readOp.f
  simp only [e1, e2, Option.bind_some]
  by_cases c0 : W.length = 0
  · rw [c0]; exact ⟨_, rfl, rfl, fun _ => rfl⟩
  have hw0 := hne _ (getD_mem (show 0 < W.length by omega) ByteArray.empty)
  have hkl := kind_loop W (by omega)
  have h0 : (0 : Int).toNat = 0 := rfl
  have h1 : (1 : Int).toNat = 1 := rfl
  have h2 : (2 : Int).toNat = 2 := rfl
  rw [show ((W.length : Int) == 0) = false by rw [beq_eq_false_iff_ne]; omega]
  simp only [cond_false, if_pos (show (0 : Int) ≤ (1 : Int) ∧ (1 : Int) ≤ (W.length : Int) by omega), if_pos (show (0 : Int) ≤ (0 : Int) ∧ (0 : Int) < (W.length : Int) by omega), h0, h1, h2, hr, ew, eo, Option.bind_some, index_str opW (W.getD 0 ByteArray.empty) (by decide), hkl, isBare_eq, impl_OpOK_eq, spec_OpOK_eq]
  generalize hk : accK (W.getD 0 ByteArray.empty) 6 = k
  have hkc := kind_cases _ hw0
  rw [hk] at hkc
  by_cases c1 : W.length = 1
  · have hd : W.drop 1 = [] := List.drop_eq_nil_of_le (by omega)
    rw [decide_eq_true (show (W.length : Int) < 2 by omega), hd]
    simp only [cond_true, List.all_nil, List.map_nil, Bool.not_true, cond_false]
    refine ⟨_, rfl, ?_, fun _ => rfl⟩
    rcases hkc with ⟨k1, k6, hi⟩ | ⟨hk0, hi⟩
    · rw [hi, decide_eq_false (show ¬ k < 1 by omega)]
      simp [op_bad (k := k) (a := 0) (b := 0) (by omega)]
    · rw [hi]; rfl
  rw [decide_eq_false (show ¬ (W.length : Int) < 2 by omega)]
  have m1 := hsz _ (getD_mem (show 1 < W.length by omega) ByteArray.empty)
  have hd : W.drop 1 = W.getD 1 ByteArray.empty :: W.drop 2 := by
    rw [List.drop_eq_getElem_cons (show 1 < W.length by omega), getD_lt (show 1 < W.length by omega)]
  simp only [cond_false, if_pos (show (0 : Int) ≤ (1 : Int) ∧ (1 : Int) < (W.length : Int) by omega), sdN_eq m1, Option.bind_some]
  have eu : ((bif k == 1 then (spec_l01Bit.f true).bind fun y76 => some (w64 (3 - y76)) else (spec_l01Bit.f (k == 3)).bind fun y78 => some (w64 (3 - y78))) : Option Int) = some (bif (k == 1 || k == 3) then 2 else 3) := by cases k == 1 <;> cases k == 3 <;> rfl
  rw [eu, hd]
  simp only [Option.bind_some]
  obtain ⟨R1, R2⟩ := num_rel m1
  generalize sdN (W.getD 1 ByteArray.empty) = S at R1 R2 ⊢
  generalize hT : rdN (W.getD 1 ByteArray.empty) = T at R1 R2
  obtain ⟨sv, sb⟩ := S
  obtain ⟨tv, tb⟩ := T
  simp only at R1 R2
  have hbad : ∀ a b : Int, a < 1 ∨ b < 0 → opOK ⟨k, a, b⟩ = false := fun a b h => op_bad (by omega)
  by_cases c2 : W.length = 2
  · have hd2 : W.drop 2 = [] := List.drop_eq_nil_of_le (by omega)
    rw [hd2, c2]
    simp only [List.all_cons, List.all_nil, Bool.and_true, List.map_cons, List.map_nil, hT]
    rcases hkc with ⟨k1, k6, hi⟩ | ⟨hk0, hi⟩
    · rw [hi, decide_eq_false (show ¬ k < 1 by omega)]
      cases hb : (k == 1 || k == 3)
      · refine ⟨(⟨0, 0, 0⟩, false), ?_, ?_, fun _ => rfl⟩
        · cases sb <;> rfl
        · cases tb
          · rfl
          · simp [hbad 0 0 (by omega)]
      · cases sb
        · refine ⟨(⟨0, 0, 0⟩, false), rfl, ?_, fun _ => rfl⟩
          cases tb
          · rfl
          · have : tv < 0 := by
              rcases Int.lt_or_le tv 0 with h | h
              · exact h
              · have := (R2 rfl h).1; cases this
            simp [hbad tv 0 (by omega)]
        · obtain ⟨rfl, rfl⟩ := R1 rfl
          cases ho : opOK ⟨k, tv, 0⟩
          · exact ⟨(⟨0, 0, 0⟩, false), by simp [ho], by simp [ho], fun _ => rfl⟩
          · exact ⟨(⟨k, tv, 0⟩, true), by simp [ho], by simp [ho], fun h => by cases h⟩
    · subst hk0
      rw [hi]
      refine ⟨(⟨0, 0, 0⟩, false), ?_, ?_, fun _ => rfl⟩
      · cases sb <;> rfl
      · cases tb <;> rfl
  have m2 := hsz _ (getD_mem (show 2 < W.length by omega) ByteArray.empty)
  have hd2 : W.drop 2 = W.getD 2 ByteArray.empty :: W.drop 3 := by
    rw [List.drop_eq_getElem_cons (show 2 < W.length by omega), getD_lt (show 2 < W.length by omega)]
  rw [hd2]
  obtain ⟨R3, R4⟩ := num_rel m2
  simp only [if_pos (show (0 : Int) ≤ (2 : Int) ∧ (2 : Int) < (W.length : Int) by omega), sdN_eq m2, Option.bind_some]
  generalize sdN (W.getD 2 ByteArray.empty) = S2 at R3 R4 ⊢
  generalize hT2 : rdN (W.getD 2 ByteArray.empty) = T2 at R3 R4
  obtain ⟨sv2, sb2⟩ := S2
  obtain ⟨tv2, tb2⟩ := T2
  simp only at R3 R4
  by_cases c3 : W.length = 3
  · have hd3 : W.drop 3 = [] := List.drop_eq_nil_of_le (by omega)
    rw [hd3, c3]
    simp only [List.all_cons, List.all_nil, Bool.and_true, List.map_cons, List.map_nil, hT, hT2]
    rcases hkc with ⟨k1, k6, hi⟩ | ⟨hk0, hi⟩
    · rw [hi, decide_eq_false (show ¬ k < 1 by omega)]
      cases hb : (k == 1 || k == 3)
      · cases sb
        · refine ⟨(⟨0, 0, 0⟩, false), rfl, ?_, fun _ => rfl⟩
          cases tb
          · rfl
          · have : tv < 0 := by
              rcases Int.lt_or_le tv 0 with h | h
              · exact h
              · have := (R2 rfl h).1; cases this
            cases tb2
            · rfl
            · simp [hbad tv tv2 (by omega)]
        · obtain ⟨rfl, rfl⟩ := R1 rfl
          cases sb2
          · refine ⟨(⟨0, 0, 0⟩, false), rfl, ?_, fun _ => rfl⟩
            cases tb2
            · rfl
            · have : tv2 < 0 := by
                rcases Int.lt_or_le tv2 0 with h | h
                · exact h
                · have := (R4 rfl h).1; cases this
              simp [hbad tv tv2 (by omega)]
          · obtain ⟨rfl, rfl⟩ := R3 rfl
            cases ho : opOK ⟨k, tv, tv2⟩
            · exact ⟨(⟨0, 0, 0⟩, false), by simp [ho], by simp [ho], fun _ => rfl⟩
            · exact ⟨(⟨k, tv, tv2⟩, true), by simp [ho], by simp [ho], fun h => by cases h⟩
      · refine ⟨(⟨0, 0, 0⟩, false), ?_, ?_, fun _ => rfl⟩
        · cases sb <;> rfl
        · cases tb <;> cases tb2 <;> first | rfl | simp [hbad 0 0 (by omega)]
    · subst hk0
      rw [hi]
      refine ⟨(⟨0, 0, 0⟩, false), ?_, ?_, fun _ => rfl⟩
      · cases sb <;> cases sb2 <;> first | rfl | simp [hbad sv sv2, op_bad (k := 0) (a := sv) (b := sv2) (by omega)]
      · cases tb <;> cases tb2 <;> rfl
  · have hd3 : W.drop 3 = W.getD 3 ByteArray.empty :: W.drop 4 := by
      rw [List.drop_eq_getElem_cons (show 3 < W.length by omega), getD_lt (show 3 < W.length by omega)]
    refine ⟨(⟨0, 0, 0⟩, false), ?_, ?_, fun _ => rfl⟩
    · have hne2 : ((W.length : Int) != (bif (k == 1 || k == 3) then 2 else 3)) = true := by
        cases (k == 1 || k == 3)
        · rw [bne_iff_ne]; simp only [cond_false]; omega
        · rw [bne_iff_ne]; simp only [cond_true]; omega
      rw [hne2]
      cases sb <;> rfl
    · rcases hkc with ⟨k1, k6, hi⟩ | ⟨hk0, hi⟩
      · rw [hi, decide_eq_false (show ¬ k < 1 by omega)]
        cases hal : (W.getD 1 ByteArray.empty :: W.getD 2 ByteArray.empty :: W.drop 3).all fun w => (rdN w).2
        · rfl
        · rw [hd3]
          simp only [cond_true, cond_false, Bool.not_true, Option.bind_some, List.map_cons, List.length_cons]
          rw [show ((((((W.drop 4).map fun w => (rdN w).1).length + 1 + 1 + 1 : Nat)) : Int) == 1) = false by rw [beq_eq_false_iff_ne]; omega, show ((((((W.drop 4).map fun w => (rdN w).1).length + 1 + 1 + 1 : Nat)) : Int) == 2) = false by rw [beq_eq_false_iff_ne]; omega]
          simp [hbad 0 0 (by omega)]
      · rw [hi]
        cases (W.getD 1 ByteArray.empty :: W.getD 2 ByteArray.empty :: W.drop 3).all fun w => (rdN w).2 <;> rfl

theorem l00Cut_eq (x : ByteArray) (hx : x.size ≤ 1048576) (d : Int) : ∃ l, spec_l00Cut.f x d = some l ∧ l.map bytesOf = spc d (bytesOf x) := by
  have hl := bytesOf_len x
  unfold spec_l00Cut.f
  obtain ⟨r, h1, h2⟩ := loopO_wf (step := fun s : List ByteArray × Int × Int => spec_l00Cut.s0 x d s.1 s.2.1 s.2.2)
    (fun t => ∃ s i : Nat, t.2.1 = (s : Int) ∧ t.2.2 = (i : Int) ∧ i ≤ x.size ∧ s ≤ i ∧ t.1.length ≤ i ∧ (∀ y ∈ ((bytesOf x).drop s).take (i - s), y ≠ d) ∧ t.1.map bytesOf ++ spc d ((bytesOf x).drop s) = spc d (bytesOf x))
    (fun r => ∃ (l : List ByteArray) (s : Nat), r = .out (l, (s : Int)) ∧ s ≤ x.size ∧ l.length ≤ x.size ∧ l.map bytesOf ++ [(bytesOf x).drop s] = spc d (bytesOf x)) (fun t => x.size - t.2.2.toNat) (fun t hI => by
      obtain ⟨acc, s0, i0⟩ := t
      obtain ⟨s, i, hs, hi, hil, hsi, hal, hno, hw⟩ := hI
      simp only at hs hi hal hw
      subst hs; subst hi
      by_cases c : i < x.size
      · have hb := byteAt_eq x (i : Int) (by omega) (by omega)
        rw [Int.toNat_natCast] at hb
        have hsplit : (bytesOf x).drop s = ((bytesOf x).drop s).take (i - s) ++ (bytesOf x).getD i 0 :: (bytesOf x).drop (i + 1) := by
          conv => lhs; rw [← List.take_append_drop (i - s) ((bytesOf x).drop s)]
          rw [List.drop_drop, show s + (i - s) = i by omega, List.drop_eq_getElem_cons (show i < (bytesOf x).length by omega), getD_lt (show i < (bytesOf x).length by omega)]
        simp only [spec_l00Cut.s0, decide_eq_true (show (i : Int) < (x.size : Int) by omega), cond_true, if_pos (show (0 : Int) ≤ (i : Int) ∧ (i : Int) < (x.size : Int) by omega), Option.bind_some, hb]
        cases h32 : (bytesOf x).getD i 0 == d
        · simp only [cond_false, Option.bind_some]
          rw [w64_id (by omega) (by omega)]
          refine .inl ⟨_, rfl, ⟨s, i + 1, rfl, by simp only; omega, by omega, by omega, by simp only; omega, fun y hy => ?_, hw⟩, by simp only; omega⟩
          rw [show i + 1 - s = (i - s) + 1 by omega, take_snoc _ (i - s) (by rw [List.length_drop]; omega) 0] at hy
          rcases List.mem_append.1 hy with hy | hy
          · exact hno y hy
          · rw [List.mem_singleton.1 hy]
            have e : ((bytesOf x).drop s).getD (i - s) 0 = (bytesOf x).getD i 0 := by
              rw [List.getD_eq_getElem?_getD, List.getElem?_drop, show s + (i - s) = i by omega, ← List.getD_eq_getElem?_getD]
            rw [e]
            intro e2
            rw [e2, beq_self_eq_true] at h32; cases h32
        · rw [beq_iff_eq] at h32
          simp only [cond_true, Option.bind_some, if_pos (show (0 : Int) ≤ (s : Int) ∧ (s : Int) ≤ (i : Int) ∧ (i : Int) ≤ (x.size : Int) by omega), if_pos (show acc.length + ([(x.extract (s : Int).toNat (i : Int).toNat)]).length ≤ 1073741824 by simp only [List.length_cons, List.length_nil]; omega)]
          rw [w64_id (by omega) (by omega)]
          refine .inl ⟨_, rfl, ⟨i + 1, i + 1, by simp only; omega, by simp only; omega, by omega, Nat.le_refl _, by simp only [List.length_append, List.length_cons, List.length_nil]; omega, fun y hy => by simp at hy, ?_⟩, by simp only; omega⟩
          simp only
          rw [h32] at hsplit
          rw [← hw]
          conv => rhs; rw [hsplit, spc_word _ _ _ hno]
          simp [bytesOf_extract]
      · have e : i = x.size := by omega
        simp only [spec_l00Cut.s0]
        rw [decide_eq_false (by omega)]
        refine .inr ⟨_, rfl, acc, s, rfl, by omega, by omega, ?_⟩
        have hd : ((bytesOf x).drop s).take (i - s) = (bytesOf x).drop s := List.take_of_length_le (by rw [List.length_drop]; omega)
        rw [hd] at hno
        rw [← hw, spc_last _ _ hno]) _ (([] : List ByteArray), 0, 0) (Nat.le_refl _) ⟨0, 0, rfl, rfl, by omega, Nat.le_refl _, by simp, fun y hy => by simp at hy, by simp⟩
  rw [h1]
  obtain ⟨l, s, rfl, h3, h4, h5⟩ := h2
  simp only [Option.bind_some]
  rw [if_pos (by omega), if_pos (by simp only [List.length_cons, List.length_nil]; omega)]
  refine ⟨_, rfl, ?_⟩
  rw [← h5, List.map_append]
  congr 1
  simp only [List.map_cons, List.map_nil, bytesOf_extract, Int.toNat_natCast]
  rw [List.take_of_length_le (by rw [List.length_drop]; omega)]
/-- Both sides cut alike. -/
theorem cut_both (c : UInt8) (x : ByteArray) (hx : x.size ≤ 1048576) : ∃ l, strings_Split.f x (⟨#[c]⟩ : ByteArray) = some l ∧ spec_l00Cut.f x (c.toNat : Int) = some l ∧ l.map bytesOf = spc (c.toNat : Int) (bytesOf x) ∧ l.length ≤ 1048577 ∧ ∀ w ∈ l, w.size ≤ 1048576 := by
  obtain ⟨l, e1, m1, h1, h2⟩ := split_eqc c x hx
  obtain ⟨l2, e2, m2⟩ := l00Cut_eq x hx (c.toNat : Int)
  have inj : ∀ a b : List ByteArray, a.map bytesOf = b.map bytesOf → a = b := by
    intro a
    induction a with
    | nil => intro b h; cases b with
      | nil => rfl
      | cons y r => cases h
    | cons y r ih => intro b h; cases b with
      | nil => cases h
      | cons z q =>
        simp only [List.map_cons, List.cons.injEq] at h
        rw [ba_ext h.1, ih q h.2]
  have e := inj l l2 (m1.trans m2.symm)
  subst e
  exact ⟨l, e1, e2, m1, h1, h2⟩

noncomputable def rdO (w : ByteArray) : S_Op × Bool := (impl_readOp.f w).getD (⟨0, 0, 0⟩, false)
theorem rdO_eq {w : ByteArray} (h : w.size ≤ 1048576) : spec_l09ToOp.f w = some (rdO w) ∧ impl_readOp.f w = some (rdO w) := by
  obtain ⟨r, e1, e2, _⟩ := readOp_both w h
  have e : rdO w = r := by unfold rdO; rw [e2]; rfl
  rw [e]; exact ⟨e1, e2⟩
noncomputable def cutB (c : UInt8) (x : ByteArray) : List ByteArray := (strings_Split.f x (⟨#[c]⟩ : ByteArray)).getD []
theorem cutB_eq (c : UInt8) (x : ByteArray) (hx : x.size ≤ 1048576) : strings_Split.f x (⟨#[c]⟩ : ByteArray) = some (cutB c x) ∧ spec_l00Cut.f x (c.toNat : Int) = some (cutB c x) ∧ (cutB c x).map bytesOf = spc (c.toNat : Int) (bytesOf x) ∧ (cutB c x).length ≤ 1048577 ∧ ∀ w ∈ cutB c x, w.size ≤ 1048576 := by
  obtain ⟨l, e1, e2, h⟩ := cut_both c x hx
  have e : cutB c x = l := by unfold cutB; rw [e1]; rfl
  rw [e]; exact ⟨e1, e2, h⟩
noncomputable def rdT (w : ByteArray) : S_Txn × Bool := (⟨(cutB 59 w).map (fun v => (rdO v).1)⟩, (cutB 59 w).all (fun v => (rdO v).2))
theorem ops_spec (l : List ByteArray) (hl : l.length ≤ 1048577) (h : ∀ w ∈ l, w.size ≤ 1048576) : loopO (fun s : Int × List S_Op => spec_l09ToBatch.s1 l s.1 s.2) (0, []) = some (bif l.all (fun w => (rdO w).2) then .out (l.map (fun w => (rdO w).1)) else .ret (([] : List S_Txn), false)) := by
  refine collect l rdO (([] : List S_Txn), false) (fun k u => ((k : Int), u)) (fun s => s.1.toNat) (fun _ _ => rfl) (fun s : Int × List S_Op => spec_l09ToBatch.s1 l s.1 s.2) (fun k hk u hu => ?_) (fun u => ?_)
  · simp only [spec_l09ToBatch.s1, decide_eq_true (show (k : Int) < (l.length : Int) by omega), cond_true, if_pos (show (0 : Int) ≤ (k : Int) ∧ (k : Int) < (l.length : Int) by omega), Int.toNat_natCast, (rdO_eq (h _ (getD_mem hk ByteArray.empty))).1, Option.bind_some]
    rw [if_pos (by simp only [List.length_cons, List.length_nil]; omega), w64_id (by omega) (by omega)]
    cases (rdO (l.getD k ByteArray.empty)).2 <;> rfl
  · simp only [spec_l09ToBatch.s1]
    rw [decide_eq_false (by omega)]; rfl
theorem ops_impl (l : List ByteArray) (hl : l.length ≤ 1048577) (h : ∀ w ∈ l, w.size ≤ 1048576) : loopO (fun s : Int × List S_Op => impl_readBatch.s1 l s.1 s.2) (0, []) = some (bif l.all (fun w => (rdO w).2) then .out (l.map (fun w => (rdO w).1)) else .ret (([] : List S_Txn), false)) := by
  refine collect l rdO (([] : List S_Txn), false) (fun k u => ((k : Int), u)) (fun s => s.1.toNat) (fun _ _ => rfl) (fun s : Int × List S_Op => impl_readBatch.s1 l s.1 s.2) (fun k hk u hu => ?_) (fun u => ?_)
  · simp only [impl_readBatch.s1, decide_eq_true (show (k : Int) < (l.length : Int) by omega), cond_true, if_pos (show (0 : Int) ≤ (k : Int) ∧ (k : Int) < (l.length : Int) by omega), Int.toNat_natCast, (rdO_eq (h _ (getD_mem hk ByteArray.empty))).2, Option.bind_some]
    rw [if_pos (by simp only [List.length_cons, List.length_nil]; omega), w64_id (by omega) (by omega)]
    cases (rdO (l.getD k ByteArray.empty)).2 <;> rfl
  · simp only [impl_readBatch.s1]
    rw [decide_eq_false (by omega)]; rfl
/-- What both sides read. -/
noncomputable def rdBatch (x : ByteArray) : List S_Txn × Bool := bif (cutB 124 x).all (fun w => (rdT w).2) && batchOK ((cutB 124 x).map (fun w => (rdT w).1)) then ((cutB 124 x).map (fun w => (rdT w).1), true) else ([], false)
theorem readBatch_both (x : ByteArray) (hx : x.size ≤ 1048576) : spec_l09ToBatch.f x = some (rdBatch x) ∧ impl_readBatch.f x = some (rdBatch x) := by
  obtain ⟨e1, e2, _, hlen, hsz⟩ := cutB_eq 124 x hx
  have hok : (cutB 124 x).length ≤ 1048577 ∧ ∀ y ∈ (cutB 124 x).map (fun w => (rdT w).1), y.Ops.length ≤ 1073741824 := ⟨hlen, fun y hy => by
    obtain ⟨w, hw, rfl⟩ := List.mem_map.1 hy
    have := (cutB_eq 59 w (hsz w hw)).2.2.2.1
    unfold rdT; simp only [List.length_map]; omega⟩
  have hB : ((cutB 124 x).map (fun w => (rdT w).1)).length ≤ 1073741824 := by rw [List.length_map]; omega
  have e1 : strings_Split.f x (⟨#[124]⟩ : ByteArray) = some (cutB 124 x) := e1
  have e2 : spec_l00Cut.f x 124 = some (cutB 124 x) := e2
  unfold spec_l09ToBatch.f impl_readBatch.f rdBatch
  constructor
  · have h := collect (cutB 124 x) rdT (([] : List S_Txn), false) (fun k u => (u, (k : Int))) (fun s => s.2.toNat) (fun _ _ => rfl) (fun s : List S_Txn × Int => spec_l09ToBatch.s0 (cutB 124 x) s.1 s.2) (fun k hk u hu => by
      obtain ⟨g1, g2, _, g3, g4⟩ := cutB_eq 59 _ (hsz _ (getD_mem hk ByteArray.empty))
      have g2 : spec_l00Cut.f ((cutB 124 x).getD k ByteArray.empty) 59 = _ := g2
      simp only [spec_l09ToBatch.s0, decide_eq_true (show (k : Int) < ((cutB 124 x).length : Int) by omega), cond_true, if_pos (show (0 : Int) ≤ (k : Int) ∧ (k : Int) < ((cutB 124 x).length : Int) by omega), Int.toNat_natCast, g2, Option.bind_some, ops_spec _ g3 g4]
      have : rdT ((cutB 124 x).getD k ByteArray.empty) = (⟨(cutB 59 ((cutB 124 x).getD k ByteArray.empty)).map (fun v => (rdO v).1)⟩, (cutB 59 ((cutB 124 x).getD k ByteArray.empty)).all (fun v => (rdO v).2)) := rfl
      rw [this, w64_id (by omega) (by omega)]
      cases (cutB 59 ((cutB 124 x).getD k ByteArray.empty)).all (fun v => (rdO v).2)
      · rfl
      · simp only [cond_true]
        rw [if_pos (by simp only [List.length_cons, List.length_nil]; omega)]; rfl) (fun u => by
      simp only [spec_l09ToBatch.s0]
      rw [decide_eq_false (by omega)]; rfl)
    simp only [e2, Option.bind_some]
    have h : loopO (fun s : List S_Txn × Int => spec_l09ToBatch.s0 (cutB 124 x) s.1 s.2) (([] : List S_Txn), 0) = _ := h
    rw [h]
    cases (cutB 124 x).all (fun w => (rdT w).2)
    · rfl
    · simp only [cond_true, Option.bind_some, spec_BatchOK_eq _ ⟨hB, hok.2⟩, Bool.true_and]
      cases batchOK ((cutB 124 x).map (fun w => (rdT w).1)) <;> rfl
  · have h := collect (cutB 124 x) rdT (([] : List S_Txn), false) (fun k u => (u, (k : Int))) (fun s => s.2.toNat) (fun _ _ => rfl) (fun s : List S_Txn × Int => impl_readBatch.s0 (cutB 124 x) s.1 s.2) (fun k hk u hu => by
      obtain ⟨g1, g2, _, g3, g4⟩ := cutB_eq 59 _ (hsz _ (getD_mem hk ByteArray.empty))
      have g1 : strings_Split.f ((cutB 124 x).getD k ByteArray.empty) (⟨#[59]⟩ : ByteArray) = _ := g1
      simp only [impl_readBatch.s0, decide_eq_true (show (k : Int) < ((cutB 124 x).length : Int) by omega), cond_true, if_pos (show (0 : Int) ≤ (k : Int) ∧ (k : Int) < ((cutB 124 x).length : Int) by omega), Int.toNat_natCast, g1, Option.bind_some, ops_impl _ g3 g4]
      have : rdT ((cutB 124 x).getD k ByteArray.empty) = (⟨(cutB 59 ((cutB 124 x).getD k ByteArray.empty)).map (fun v => (rdO v).1)⟩, (cutB 59 ((cutB 124 x).getD k ByteArray.empty)).all (fun v => (rdO v).2)) := rfl
      rw [this, w64_id (by omega) (by omega)]
      cases (cutB 59 ((cutB 124 x).getD k ByteArray.empty)).all (fun v => (rdO v).2)
      · rfl
      · simp only [cond_true]
        rw [if_pos (by simp only [List.length_cons, List.length_nil]; omega)]; rfl) (fun u => by
      simp only [impl_readBatch.s0]
      rw [decide_eq_false (by omega)]; rfl)
    simp only [e1, Option.bind_some]
    have h : loopO (fun s : List S_Txn × Int => impl_readBatch.s0 (cutB 124 x) s.1 s.2) (([] : List S_Txn), 0) = _ := h
    rw [h]
    cases (cutB 124 x).all (fun w => (rdT w).2)
    · rfl
    · simp only [cond_true, Option.bind_some, impl_BatchOK_eq _ ⟨hB, hok.2⟩, Bool.true_and]
      cases batchOK ((cutB 124 x).map (fun w => (rdT w).1)) <;> rfl
theorem batchOK_small {l : List S_Txn} (h : batchOK l = true) : l.length ≤ 2 ∧ ∀ t ∈ l, t.Ops.length ≤ 4 := by
  unfold batchOK at h
  simp only [Bool.and_eq_true, List.all_eq_true, inB_iff] at h
  refine ⟨by omega, fun t ht => ?_⟩
  have := h.2 t ht
  unfold txnOK at this
  simp only [Bool.and_eq_true, List.all_eq_true, inB_iff] at this
  omega

end Go.Proofs.YtfjhdkmdidadiaaGreatDoor
