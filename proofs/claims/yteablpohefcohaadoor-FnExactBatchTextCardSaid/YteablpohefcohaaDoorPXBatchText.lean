/- What the models of these functions come to. -/
import Derived.Test.YteablpohefcohaaDoorP0
import Derived.Test.YteablpohefcohaaDoorGXBatchText
namespace Go.Proofs.YteablpohefcohaaDoor
open Go Go.Z Go.Proofs Go.MuLone Go.ChangeShapes Go.WideShapes Go.ChangeAt Go.RowKit
set_option linter.unusedVariables false
set_option linter.unusedSimpArgs false
def opOK (o : S_Op) : Bool :=
  inB o.Kind 1 6 && inB o.Key 1 9999 && (bif o.Kind == 1 || o.Kind == 3 then o.Value == 0 else bif o.Kind == 6 then inB o.Value 1 4 else inB o.Value 0 999999)

def wordL (k : Int) : List Int := if k = 1 then [103, 101, 116] else if k = 2 then [112, 117, 116] else if k = 3 then [100, 114, 111, 112] else if k = 4 then [99, 104, 101, 99, 107] else if k = 5 then [97, 100, 100] else [115, 99, 97, 110]
def encOp (o : S_Op) (r : List Int) : List Int := wordL o.Kind ++ (32 :: (digL o.Key.toNat ++ (if o.Kind = 1 ∨ o.Kind = 3 then r else 32 :: (digL o.Value.toNat ++ r))))
theorem encOp_app (o : S_Op) (r : List Int) : encOp o r = encOp o [] ++ r := by
  unfold encOp
  split <;> simp
theorem ND_cons {x : Int} {r : List Int} (h : ¬ isDg x) : ND (x :: r) := fun y s e => by cases e; exact h

def encOps : List S_Op → List Int → List Int
  | [], r => r
  | [o], r => encOp o r
  | o :: p :: l, r => encOp o (59 :: 32 :: encOps (p :: l) r)
def encB : List S_Txn → List Int
  | [] => []
  | [t] => encOps t.Ops []
  | t :: u :: l => encOps t.Ops (32 :: 124 :: 32 :: encB (u :: l))
theorem encOps_app : ∀ (l : List S_Op) (r : List Int), encOps l r = encOps l [] ++ r
  | [], r => by simp [encOps]
  | [o], r => encOp_app o r
  | o :: p :: l, r => by
    have ih := encOps_app (p :: l) r
    simp only [encOps]
    rw [encOp_app o (59 :: 32 :: encOps (p :: l) r), encOp_app o (59 :: 32 :: encOps (p :: l) []), ih]
    simp
theorem encOps_join : ∀ l : List S_Op, encOps l [] = joinL [59, 32] (l.map fun o => encOp o [])
  | [] => rfl
  | [o] => rfl
  | o :: p :: l => by
    have ih := encOps_join (p :: l)
    simp only [encOps, List.map_cons, joinL] at ih ⊢
    rw [encOp_app, ih]
    simp
theorem encB_join : ∀ l : List S_Txn, encB l = joinL [32, 124, 32] (l.map fun t => encOps t.Ops [])
  | [] => rfl
  | [t] => rfl
  | t :: u :: l => by
    have ih := encB_join (u :: l)
    simp only [encB, List.map_cons, joinL] at ih ⊢
    rw [encOps_app, ih]
    simp
theorem ND_nil : ND [] := fun x r h => by cases h

def opI (L : List Int) (s : Nat × Bool) : S_Op × (Nat × Bool) := (⟨(nI L 1 6 s).1, (nI L 1 9999 (nI L 1 6 s).2).1, (nI L 0 999999 (nI L 1 9999 (nI L 1 6 s).2).2).1⟩, (nI L 0 999999 (nI L 1 9999 (nI L 1 6 s).2).2).2)
def opS (L : List Int) (q : Nat) : S_Op × Nat := (⟨(nS L q).1, (nS L (nS L q).2).1, (nS L (nS L (nS L q).2).2).1⟩, (nS L (nS L (nS L q).2).2).2)
def rngO (b : S_Op) : Bool := inB b.Kind 1 6 && inB b.Key 1 9999 && inB b.Value 0 999999
theorem op_pair (L : List Int) : RPair L (opI L) (opS L) rngO :=
  RPair.seq (α := Int × Int) (RPair.seq (RPair.base L 1 6 (by decide)) (RPair.base L 1 9999 (by decide)) Prod.mk (fun ab => inB ab.1 1 6 && inB ab.2 1 9999) (fun _ _ => rfl)) (RPair.base L 0 999999 (by decide)) (fun ab c => ⟨ab.1, ab.2, c⟩) rngO (fun _ _ => rfl)
theorem opS_le {L : List Int} {q : Nat} (h : q ≤ L.length + 1) : (opS L q).2 ≤ L.length + 1 := nS_le (nS_le (nS_le h))
def txI (L : List Int) (s : Nat × Bool) : S_Txn × (Nat × Bool) := (⟨(rep (opI L) (nI L 1 4 s).1.toNat (nI L 1 4 s).2).1⟩, (rep (opI L) (nI L 1 4 s).1.toNat (nI L 1 4 s).2).2)
def txS (L : List Int) (q : Nat) : S_Txn × Nat := (⟨(rep (opS L) (cS L 4 q).1.toNat (cS L 4 q).2).1⟩, (rep (opS L) (cS L 4 q).1.toNat (cS L 4 q).2).2)
def rngT (t : S_Txn) : Bool := inB (t.Ops.length : Int) 1 4 && t.Ops.all rngO
theorem tx_pair (L : List Int) : RPair L (txI L) (txS L) rngT := RPair.count (op_pair L) 4 (fun l => (⟨l⟩ : S_Txn)) rngT (by decide) (fun _ => rfl)
theorem txS_le {L : List Int} {q : Nat} (h : q ≤ L.length + 1) : (txS L q).2 ≤ L.length + 1 := rep_le (f := opS L) (fun q hq => opS_le hq) _ _ (cS_le h)
def enI (L : List Int) (s : Nat × Bool) : (List Int × List S_Txn) × (Nat × Bool) :=
  (((rep (nI L 0 7) 40 s).1, (rep (txI L) (nI L 1 2 (rep (nI L 0 7) 40 s).2).1.toNat (nI L 1 2 (rep (nI L 0 7) 40 s).2).2).1), (rep (txI L) (nI L 1 2 (rep (nI L 0 7) 40 s).2).1.toNat (nI L 1 2 (rep (nI L 0 7) 40 s).2).2).2)
def enS (L : List Int) (q : Nat) : (List Int × List S_Txn) × Nat :=
  (((rep (nS L) 40 q).1, (rep (txS L) (cS L 2 (rep (nS L) 40 q).2).1.toNat (cS L 2 (rep (nS L) 40 q).2).2).1), (rep (txS L) (cS L 2 (rep (nS L) 40 q).2).1.toNat (cS L 2 (rep (nS L) 40 q).2).2).2)
def rngE (x : List Int × List S_Txn) : Bool := x.1.all (fun y => inB y 0 7) && (inB (x.2.length : Int) 1 2 && x.2.all rngT)
theorem en_pair (L : List Int) : RPair L (enI L) (enS L) rngE :=
  RPair.seq ((RPair.base L 0 7 (by decide)).reps 40) (RPair.count (tx_pair L) 2 (fun l => l) (fun l => inB (l.length : Int) 1 2 && l.all rngT) (by decide) (fun _ => rfl)) Prod.mk rngE (fun _ _ => rfl)
theorem txI_len (L : List Int) (s : Nat × Bool) : (txI L s).1.Ops.length ≤ 4 := by
  have := nI_cnt L 4 (by decide) s 1 (by decide)
  unfold txI; simp only [rep_len]; omega
theorem txS_len (L : List Int) (q : Nat) : (txS L q).1.Ops.length ≤ 4 := by
  have := cS_cnt L 4 (by decide) q
  unfold txS; simp only [rep_len]; omega

def opInts (l : List S_Op) : List Int := l.flatMap (fun o => [o.Kind, o.Key, o.Value])
theorem opInts_snoc (l : List S_Op) (b : S_Op) : opInts (l ++ [b]) = opInts l ++ [b.Kind, b.Key, b.Value] := by simp [opInts]
theorem opInts_len (l : List S_Op) : (opInts l).length = 3 * l.length := by
  induction l with
  | nil => rfl
  | cons a l ih =>
    show ([a.Kind, a.Key, a.Value] ++ opInts l).length = _
    rw [List.length_append, ih]; simp only [List.length_cons, List.length_nil]; omega
def txnInts (l : List S_Txn) : List Int := l.flatMap (fun t => [(t.Ops.length : Int)] ++ opInts t.Ops)
theorem txnInts_snoc (l : List S_Txn) (b : S_Txn) : txnInts (l ++ [b]) = txnInts l ++ [(b.Ops.length : Int)] ++ opInts b.Ops := by simp [txnInts]
theorem txnInts_len : ∀ (l : List S_Txn), (∀ t ∈ l, t.Ops.length ≤ 4) → (txnInts l).length ≤ 13 * l.length
  | [], _ => Nat.le_refl _
  | a :: l, h => by
    have ih := txnInts_len l (fun t ht => h t (List.mem_cons_of_mem _ ht))
    have h1 := h a (List.mem_cons_self ..)
    have h2 := opInts_len a.Ops
    show (([(a.Ops.length : Int)] ++ opInts a.Ops) ++ txnInts l).length ≤ _
    simp only [List.length_append, List.length_cons, List.length_nil]; omega

theorem ok_laws_szOpS (x : List S_Op) (n : Int) (h0 : 0 ≤ n) (h1 : n ≤ 1048576) (g : (x.length ≤ maxLen ∧ ∀ y : S_Op, y ∈ x → (((Lit.int .i64 y.Kind).wf = true) ∧ ((Lit.int .i64 y.Key).wf = true) ∧ ((Lit.int .i64 y.Value).wf = true)))) : ∃ m, laws_szOpS.f x n = some m ∧ (m < 0 ∨ (0 ≤ m ∧ m ≤ n ∧ (x.length ≤ 1048576))) := by
  have hM : maxLen = 9223372036854775807 := rfl
  have g1 := g.1
  unfold laws_szOpS.f
  rw [w64_id (x := n - (x.length : Int)) (by omega) (by omega)]
  by_cases h : n - (x.length : Int) < 0
  · rw [decide_eq_true h]; exact ⟨_, rfl, .inl (by decide)⟩
  rw [decide_eq_false h]; simp only [cond_false]
  exact ⟨_, rfl, .inr ⟨by omega, by omega, by omega⟩⟩

theorem ok_laws_szTxn (x : S_Txn) (n : Int) (h0 : 0 ≤ n) (h1 : n ≤ 1048576) (g : ((x.Ops.length ≤ maxLen ∧ ∀ y : S_Op, y ∈ x.Ops → (((Lit.int .i64 y.Kind).wf = true) ∧ ((Lit.int .i64 y.Key).wf = true) ∧ ((Lit.int .i64 y.Value).wf = true))))) : ∃ m, laws_szTxn.f x n = some m ∧ (m < 0 ∨ (0 ≤ m ∧ m ≤ n ∧ ((x.Ops.length ≤ 1048576)))) := by
  have hM : maxLen = 9223372036854775807 := rfl
  unfold laws_szTxn.f
  obtain ⟨m1, e1, c1⟩ := ok_laws_szOpS x.Ops n (by omega) (by omega) g
  rw [e1]; simp only [Option.bind_some]
  rcases c1 with c1 | ⟨p1, q1, r1⟩
  · rw [decide_eq_true c1]; exact ⟨_, rfl, .inl (by decide)⟩
  rw [decide_eq_false (show ¬ m1 < 0 by omega)]; simp only [cond_false]
  exact ⟨_, rfl, .inr ⟨by omega, by omega, r1⟩⟩

theorem ok_laws_szTxnS (x : List S_Txn) (n : Int) (h0 : 0 ≤ n) (h1 : n ≤ 1048576) (g : (x.length ≤ maxLen ∧ ∀ y : S_Txn, y ∈ x → ((y.Ops.length ≤ maxLen ∧ ∀ y1 : S_Op, y1 ∈ y.Ops → (((Lit.int .i64 y1.Kind).wf = true) ∧ ((Lit.int .i64 y1.Key).wf = true) ∧ ((Lit.int .i64 y1.Value).wf = true)))))) : ∃ m, laws_szTxnS.f x n = some m ∧ (m < 0 ∨ (0 ≤ m ∧ m ≤ n ∧ (x.length ≤ 1048576 ∧ ∀ z0 : S_Txn, z0 ∈ x → ((z0.Ops.length ≤ 1048576))))) := by
  have hM : maxLen = 9223372036854775807 := rfl
  have g1 := g.1
  unfold laws_szTxnS.f
  rw [w64_id (x := n - (x.length : Int)) (by omega) (by omega)]
  by_cases h : n - (x.length : Int) < 0
  · rw [decide_eq_true h]; exact ⟨_, rfl, .inl (by decide)⟩
  rw [decide_eq_false h]; simp only [cond_false]
  obtain ⟨r, e1, e2⟩ := loopO_wf (step := fun s : Int × Int => laws_szTxnS.s0 x s.1 s.2) (fun s => ∃ k : Nat, ∃ m : Int, s = (m, (k : Int)) ∧ k ≤ x.length ∧ 0 ≤ m ∧ m ≤ n ∧ ∀ j, j < k → ((((x.getD j z_Txn).Ops).length ≤ 1048576)))
    (fun r : Ex Int Int => match r with | .out m => 0 ≤ m ∧ m ≤ n ∧ ∀ j, j < x.length → ((((x.getD j z_Txn).Ops).length ≤ 1048576)) | .ret m => m < 0) (fun s => x.length - s.2.toNat) (fun s hI => by
      obtain ⟨k, m, rfl, hk, m0, m1, hj⟩ := hI
      by_cases hlt : k < x.length
      · have gk := g.2 (x.getD k z_Txn) (getD_mem hlt _)
        simp only [laws_szTxnS.s0, decide_eq_true (show (k : Int) < (x.length : Int) by omega), cond_true, if_pos (show (0 : Int) ≤ (k : Int) ∧ (k : Int) < (x.length : Int) by omega), Int.toNat_natCast]
        obtain ⟨m2, e3, h3⟩ := ok_laws_szTxn (x.getD k z_Txn) m m0 (by omega) gk
        rw [e3]; simp only [Option.bind_some]
        rcases h3 with h3 | ⟨h3, h4, h5⟩
        · rw [decide_eq_true h3]; exact .inr ⟨.ret (-1), rfl, (by decide : (-1 : Int) < 0)⟩
        · rw [decide_eq_false (show ¬ m2 < 0 by omega), w64_id (x := (k : Int) + 1) (by omega) (by omega)]
          refine .inl ⟨(m2, ((k + 1 : Nat) : Int)), rfl, ⟨k + 1, _, rfl, by omega, h3, by omega, fun j hj2 => ?_⟩, by simp only [Int.toNat_natCast]; omega⟩
          rcases Nat.lt_or_ge j k with h | h
          · exact hj j h
          · have : j = k := by omega
            rw [this]; exact h5
      · refine .inr ⟨.out m, ?_, m0, m1, fun j hj2 => hj j (by omega)⟩
        simp only [laws_szTxnS.s0]; rw [decide_eq_false (by omega)]; rfl) _ (n - (x.length : Int), 0) (Nat.le_refl _) ⟨0, _, rfl, Nat.zero_le _, by omega, by omega, fun j hj => by omega⟩
  rw [e1]
  cases r with
  | out m => exact ⟨m, rfl, .inr ⟨e2.1, e2.2.1, by omega, all_get e2.2.2⟩⟩
  | ret m => exact ⟨m, rfl, .inl e2⟩

theorem l01In_eq (x lo hi : Int) : spec_l01In.f x lo hi = some (inB x lo hi) := by
  unfold spec_l01In.f inB; cases decide (lo ≤ x) <;> rfl

theorem spec_OpOK_eq (o : S_Op) : spec_OpOK.f o = some (opOK o) := by
  unfold spec_OpOK.f opOK
  simp only [l01In_eq, Option.bind_some]
  cases inB o.Kind 1 6 <;> cases inB o.Key 1 9999 <;> cases o.Kind == 1 <;> cases o.Kind == 3 <;> cases o.Kind == 6 <;> rfl

def txnOK (t : S_Txn) : Bool := t.Ops.all opOK && inB t.Ops.length 1 4
theorem l09Txn_eq (t : S_Txn) (h : t.Ops.length ≤ 1073741824) : spec_l09Txn.f t = some (txnOK t) := by
  unfold spec_l09Txn.f
  have := loopO_scan (step := fun s => spec_l09Txn.s0 t s) (fun k => (k : Int)) t.Ops.length (fun k => opOK (t.Ops.getD k z_Op)) (b := false) (t := ()) (fun k hk => by
    simp only [spec_l09Txn.s0, spec_OpOK_eq, Option.bind_some, Int.toNat_natCast, decide_eq_true (show (k : Int) < (t.Ops.length : Int) by omega), cond_true, if_pos (show (0 : Int) ≤ (k : Int) ∧ (k : Int) < (t.Ops.length : Int) by omega)]
    rw [w64_id (by omega) (by omega)]
    cases opOK (t.Ops.getD k z_Op) <;> rfl) (by
    simp only [spec_l09Txn.s0]
    rw [decide_eq_false (by omega)]; rfl)
  rw [show ((0 : Int)) = ((0 : Nat) : Int) from rfl, this, all_range t.Ops z_Op opOK]
  unfold txnOK
  simp only [l01In_eq, Option.bind_some]
  cases t.Ops.all opOK <;> rfl

def batchOK (l : List S_Txn) : Bool := inB l.length 1 2 && l.all txnOK
theorem spec_BatchOK_eq (l : List S_Txn) (h : l.length ≤ 1073741824 ∧ ∀ y, y ∈ l → y.Ops.length ≤ 1073741824) : spec_BatchOK.f l = some (batchOK l) := by
  have hl := h.1
  unfold spec_BatchOK.f batchOK
  by_cases hbig : (l.length : Int) > 4096
  · rw [decide_eq_true hbig]
    have : inB (l.length : Int) 1 2 = false := by
      unfold inB; rw [decide_eq_false (show ¬ (l.length : Int) ≤ 2 by omega), Bool.and_false]
    rw [this]; rfl
  rw [decide_eq_false hbig]
  have := loopO_scan (step := fun s => spec_BatchOK.s0 l s) (fun k => (k : Int)) l.length (fun k => txnOK (l.getD k z_Txn)) (b := false) (t := ()) (fun k hk => by
    simp only [spec_BatchOK.s0, l09Txn_eq _ (h.2 _ (getD_mem hk z_Txn)), Option.bind_some, Int.toNat_natCast, decide_eq_true (show (k : Int) < (l.length : Int) by omega), cond_true, if_pos (show (0 : Int) ≤ (k : Int) ∧ (k : Int) < (l.length : Int) by omega)]
    rw [w64_id (by omega) (by omega)]
    cases txnOK (l.getD k z_Txn) <;> rfl) (by
    simp only [spec_BatchOK.s0]
    rw [decide_eq_false (by omega)]; rfl)
  simp only [l01In_eq, Option.bind_some, cond_false]
  rw [show ((0 : Int)) = ((0 : Nat) : Int) from rfl, this, all_range l z_Txn txnOK]
  cases inB (l.length : Int) 1 2 <;> cases l.all txnOK <;> rfl

theorem digits_step (k : Nat) (hk : k ≤ 1000000000000000000) (m : Nat) : spec_l00Digits.g (m + 1) (k : Int) = (if k < 10 then some (strOfNums [48 + (k : Int)]) else (spec_l00Digits.g m ((k / 10 : Nat) : Int)).bind fun y => if y.size + 1 ≤ 1152921504606846976 then some (y ++ strOfNums [48 + ((k % 10 : Nat) : Int)]) else none) := by
  rw [spec_l00Digits.g]
  have e1 : ((k : Int) == (-9223372036854775808)) = false := by rw [beq_eq_false_iff_ne]; omega
  rw [e1, decide_eq_false (show ¬ (k : Int) < 0 by omega)]
  simp only [cond_false]
  by_cases h : k < 10
  · rw [decide_eq_true (show (k : Int) < 10 by omega), if_pos h, w64_id (by omega) (by omega)]
    have : IntKind.wrap .u8 (48 + (k : Int)) = 48 + (k : Int) := by show (48 + (k : Int)) % 256 = _; omega
    rw [this]; rfl
  · rw [decide_eq_false (show ¬ (k : Int) < 10 by omega), if_neg h]
    have e2 : IntKind.wrap .i64 (Int.tdiv (k : Int) 10) = ((k / 10 : Nat) : Int) := by
      rw [Int.tdiv_eq_ediv_of_nonneg (by omega)]
      have : IntKind.wrap .i64 ((k : Int) / 10) = (k : Int) / 10 := w64_id (by omega) (by omega)
      rw [this]; omega
    have e3 : IntKind.wrap .u8 (w64 (48 + Int.tmod (k : Int) 10)) = 48 + ((k % 10 : Nat) : Int) := by
      rw [Int.tmod_eq_emod_of_nonneg (by omega), w64_id (by omega) (by omega)]
      show (48 + (k : Int) % 10) % 256 = _
      omega
    simp only [cond_false, e2, e3, strOfNums_size, List.length_cons, List.length_nil]
theorem digits_uniq (k : Nat) : k ≤ 1000000000000000000 → (∃ N, spec_l00Digits.g N (k : Int) = some (strOfNums (digL k))) ∧ ∀ m r, spec_l00Digits.g m (k : Int) = some r → r = strOfNums (digL k) := by
  induction k using Nat.strongRecOn with
  | ind k ih =>
    intro hk
    by_cases h : k < 10
    · have hd : digL k = [48 + (k : Int)] := by rw [digL, if_pos h]
      refine ⟨⟨1, by rw [digits_step k hk, if_pos h, hd]⟩, fun m r hr => ?_⟩
      cases m with
      | zero => rw [spec_l00Digits.g] at hr; cases hr
      | succ m => rw [digits_step k hk, if_pos h] at hr; cases hr; rw [hd]
    · have hd : digL k = digL (k / 10) ++ [48 + ((k % 10 : Nat) : Int)] := by rw [digL, if_neg h]
      obtain ⟨⟨N, hN⟩, hu⟩ := ih (k / 10) (by omega) (by omega)
      have hsz : (strOfNums (digL (k / 10))).size + 1 ≤ 1152921504606846976 := by
        rw [strOfNums_size]; have := (digL_len (k / 10)).2; omega
      refine ⟨⟨N + 1, by rw [digits_step k hk, if_neg h, hN]; simp only [Option.bind_some]; rw [if_pos hsz, hd, str_append]⟩, fun m r hr => ?_⟩
      cases m with
      | zero => rw [spec_l00Digits.g] at hr; cases hr
      | succ m =>
        rw [digits_step k hk, if_neg h] at hr
        obtain ⟨y, hy, hr⟩ := Option.bind_eq_some_iff.1 hr
        have := hu m y hy
        subst this
        rw [if_pos hsz] at hr
        cases hr
        rw [hd, str_append]
theorem digits_eq (k : Int) (h0 : 0 ≤ k) (h1 : k ≤ 1000000000000000000) : spec_l00Digits.f k = some (strOfNums (digL k.toNat)) := by
  obtain ⟨⟨N, hN⟩, hu⟩ := digits_uniq k.toNat (by omega)
  have e : ((k.toNat : Nat) : Int) = k := by omega
  rw [e] at hN hu
  unfold spec_l00Digits.f
  exact recO_eq N hN hu

theorem opOK_parts {o : S_Op} (h : opOK o = true) : (1 ≤ o.Kind ∧ o.Kind ≤ 6) ∧ (1 ≤ o.Key ∧ o.Key ≤ 9999) ∧ (0 ≤ o.Value ∧ o.Value ≤ 999999) ∧ ((o.Kind = 1 ∨ o.Kind = 3) → o.Value = 0) := by
  unfold opOK at h
  simp only [Bool.and_eq_true] at h
  obtain ⟨⟨h1, h2⟩, h3⟩ := h
  have h1' := inB_iff.1 h1
  have h2' := inB_iff.1 h2
  by_cases hb : o.Kind = 1 ∨ o.Kind = 3
  · have : (o.Kind == 1 || o.Kind == 3) = true := by simpa using hb
    rw [this] at h3
    simp only [cond_true, beq_iff_eq] at h3
    exact ⟨h1', h2', by omega, fun _ => h3⟩
  · have : (o.Kind == 1 || o.Kind == 3) = false := by simpa using hb
    rw [this] at h3
    simp only [cond_false] at h3
    by_cases h6 : o.Kind = 6
    · rw [show (o.Kind == 6) = true from by simpa using h6] at h3
      have := inB_iff.1 h3
      exact ⟨h1', h2', by omega, fun h => absurd h hb⟩
    · rw [show (o.Kind == 6) = false from by simpa using h6] at h3
      have := inB_iff.1 h3
      exact ⟨h1', h2', by omega, fun h => absurd h hb⟩
theorem encOp_inj {o p : S_Op} {r s : List Int} (ho : opOK o = true) (hp : opOK p = true) (hr : ND r) (hs : ND s) (h : encOp o r = encOp p s) : o = p ∧ r = s := by
  obtain ⟨ok1, ok2, ok3, ok4⟩ := opOK_parts ho
  obtain ⟨pk1, pk2, pk3, pk4⟩ := opOK_parts hp
  have n32 : ¬ isDg 32 := by unfold isDg; omega
  unfold encOp at h
  have key : o.Kind = p.Kind ∧ (digL o.Key.toNat ++ (if o.Kind = 1 ∨ o.Kind = 3 then r else 32 :: (digL o.Value.toNat ++ r))) = (digL p.Key.toNat ++ (if p.Kind = 1 ∨ p.Kind = 3 then s else 32 :: (digL p.Value.toNat ++ s))) := by
    have ho1 : o.Kind = 1 ∨ o.Kind = 2 ∨ o.Kind = 3 ∨ o.Kind = 4 ∨ o.Kind = 5 ∨ o.Kind = 6 := by omega
    have hp1 : p.Kind = 1 ∨ p.Kind = 2 ∨ p.Kind = 3 ∨ p.Kind = 4 ∨ p.Kind = 5 ∨ p.Kind = 6 := by omega
    rcases ho1 with e | e | e | e | e | e <;> rcases hp1 with f | f | f | f | f | f <;> rw [e, f] at h ⊢ <;> simp [wordL] at h ⊢ <;> exact h
  obtain ⟨hk, h2⟩ := key
  rw [hk] at h2
  by_cases hb : p.Kind = 1 ∨ p.Kind = 3
  · rw [if_pos hb, if_pos hb] at h2
    obtain ⟨h3, h4⟩ := dig_inj hr hs h2
    have e1 := ok4 (hk ▸ hb)
    have e2 := pk4 hb
    refine ⟨?_, h4⟩
    obtain ⟨a, b, c⟩ := o
    obtain ⟨a', b', c'⟩ := p
    simp only at *
    have : b = b' := by omega
    rw [hk, this, e1, e2]
  · rw [if_neg hb, if_neg hb] at h2
    obtain ⟨h3, h4⟩ := dig_inj (ND_cons n32) (ND_cons n32) h2
    simp only [List.cons.injEq, true_and] at h4
    obtain ⟨h5, h6⟩ := dig_inj hr hs h4
    refine ⟨?_, h6⟩
    obtain ⟨a, b, c⟩ := o
    obtain ⟨a', b', c'⟩ := p
    simp only at *
    have : b = b' := by omega
    have : c = c' := by omega
    subst hk; subst b; subst c; rfl
theorem wordL_len (k : Int) : (wordL k).length ≤ 5 := by
  unfold wordL
  (repeat' split) <;> simp
theorem encOp_len {o : S_Op} (ho : opOK o = true) : (encOp o []).length ≤ 2000000 := by
  obtain ⟨ok1, ok2, ok3, ok4⟩ := opOK_parts ho
  have h1 := (digL_len o.Key.toNat).2
  have h2 := (digL_len o.Value.toNat).2
  have hw := wordL_len o.Kind
  unfold encOp
  split
  · simp only [List.length_append, List.length_cons, List.length_nil]; omega
  · simp only [List.length_append, List.length_cons, List.length_nil]; omega
theorem wordL_isB (k : Int) : isB (wordL k) := by
  unfold wordL isB
  repeat' split
  all_goals intro b hb; simp at hb; omega
theorem encOp_isB (o : S_Op) : isB (encOp o []) := by
  intro b hb
  unfold encOp at hb
  split at hb
  · simp only [List.mem_append, List.mem_cons, List.not_mem_nil, or_false] at hb
    rcases hb with hb | rfl | hb
    · exact wordL_isB _ b hb
    · omega
    · exact digL_isB _ b hb
  · simp only [List.mem_append, List.mem_cons, List.not_mem_nil, or_false] at hb
    rcases hb with hb | rfl | hb | rfl | hb
    · exact wordL_isB _ b hb
    · omega
    · exact digL_isB _ b hb
    · omega
    · exact digL_isB _ b hb
theorem l09Op_eq (o : S_Op) (ho : opOK o = true) : spec_l09Op.f o = some (strOfNums (encOp o [])) := by
  obtain ⟨ok1, ok2, ok3, ok4⟩ := opOK_parts ho
  have h1 := (digL_len o.Key.toNat).2
  have h2 := (digL_len o.Value.toNat).2
  unfold spec_l09Op.f spec_l09Words.f
  simp only [Option.bind_some]
  rw [if_pos (by simp; omega), digits_eq o.Key (by omega) (by omega)]
  simp only [Option.bind_some]
  have hword : ([(⟨#[]⟩ : ByteArray), (⟨#[103, 101, 116]⟩ : ByteArray), (⟨#[112, 117, 116]⟩ : ByteArray), (⟨#[100, 114, 111, 112]⟩ : ByteArray), (⟨#[99, 104, 101, 99, 107]⟩ : ByteArray), (⟨#[97, 100, 100]⟩ : ByteArray), (⟨#[115, 99, 97, 110]⟩ : ByteArray)].getD o.Kind.toNat ByteArray.empty) = strOfNums (wordL o.Kind) := by
    have ho1 : o.Kind = 1 ∨ o.Kind = 2 ∨ o.Kind = 3 ∨ o.Kind = 4 ∨ o.Kind = 5 ∨ o.Kind = 6 := by omega
    rcases ho1 with e | e | e | e | e | e <;> rw [e] <;> rfl
  have h32 : (⟨#[32]⟩ : ByteArray) = strOfNums [32] := rfl
  have hw := wordL_len o.Kind
  rw [hword, h32, ← str_append, ← str_append]
  simp only [strOfNums_size, List.length_append, List.length_cons, List.length_nil]
  rw [if_pos (by omega), if_pos (by omega)]
  by_cases hb : o.Kind = 1 ∨ o.Kind = 3
  · have hu : ((bif (o.Kind != 1) then (some (o.Kind != 3)) else (some false)) : Option Bool) = some false := by
      rcases hb with e | e <;> rw [e] <;> rfl
    simp only [hu, Option.bind_some, cond_false]
    unfold encOp
    rw [if_pos hb]; simp
  · have hu : ((bif (o.Kind != 1) then (some (o.Kind != 3)) else (some false)) : Option Bool) = some true := by
      have a1 : (o.Kind != 1) = true := by simp; omega
      have a3 : (o.Kind != 3) = true := by simp; omega
      rw [a1, a3]; rfl
    simp only [hu, Option.bind_some, cond_true, digits_eq o.Value (by omega) (by omega)]
    rw [if_pos (by simp only [strOfNums_size]; omega), ← str_append, ← str_append]
    rw [if_pos (by simp only [strOfNums_size, List.length_append, List.length_cons, List.length_nil]; omega)]
    unfold encOp
    rw [if_neg hb]; simp

theorem join_eq (sep : List Int) (l : List (List Int)) (hs : sep.length ≤ 10) (hl : l.length ≤ 1000) (hb : ∀ a ∈ l, a.length ≤ 100000000) : spec_l00Join.f (l.map strOfNums) (strOfNums sep) = some (strOfNums (joinL sep l)) := by
  unfold spec_l00Join.f
  have hz : strOfNums [] = (⟨#[]⟩ : ByteArray) := rfl
  have hgrow : ∀ k, k ≤ l.length → (joinL sep (l.take k)).length ≤ k * 100000010 := by
    intro k
    induction k with
    | zero => intro _; simp [joinL]
    | succ k ih =>
      intro hk
      have ih' := ih (by omega)
      have ht : l.take (k + 1) = l.take k ++ [l.getD k []] := by
        rw [List.take_add_one, List.getD_eq_getElem?_getD, List.getElem?_eq_getElem (show k < l.length by omega)]; rfl
      have hg := hb _ (getD_mem (show k < l.length by omega) [])
      rw [ht, joinL_snoc]
      split
      · omega
      · simp only [List.length_append]; omega
  have := loopO_run (step := fun s : ByteArray × Int => spec_l00Join.s0 (l.map strOfNums) (strOfNums sep) s.1 s.2) (fun k => (strOfNums (joinL sep (l.take k)), (k : Int))) l.length (r := .out (strOfNums (joinL sep l))) (fun k hk => by
    have ht : l.take (k + 1) = l.take k ++ [l.getD k []] := by
      rw [List.take_add_one, List.getD_eq_getElem?_getD, List.getElem?_eq_getElem (show k < l.length by omega)]; rfl
    have hg := hb _ (getD_mem hk [])
    have hgr := hgrow k (by omega)
    have hget : (l.map strOfNums).getD k ByteArray.empty = strOfNums (l.getD k []) := by
      rw [List.getD_eq_getElem?_getD, List.getElem?_map, List.getD_eq_getElem?_getD, List.getElem?_eq_getElem hk]; rfl
    have hkb : k * 100000010 ≤ 1000 * 100000010 := Nat.mul_le_mul_right _ (by omega)
    simp only [spec_l00Join.s0, List.length_map, decide_eq_true (show (k : Int) < (l.length : Int) by omega), cond_true, if_pos (show (0 : Int) ≤ (k : Int) ∧ (k : Int) < (l.length : Int) by omega), Int.toNat_natCast, hget]
    rw [w64_id (by omega) (by omega), ht, joinL_snoc]
    by_cases h0 : k = 0
    · subst h0
      simp only [List.take_zero, if_true, joinL]
      rw [decide_eq_false (by omega)]
      simp only [cond_false, Option.bind_some]
      have z3 : (strOfNums ([] : List Int)).size + (strOfNums (l.getD 0 [])).size ≤ 1152921504606846976 := by
        rw [strOfNums_size, strOfNums_size, List.length_nil]
        exact Nat.le_trans (Nat.le_of_eq (Nat.zero_add _)) (Nat.le_trans hg (by decide))
      simp only [if_pos z3, ← str_append, List.nil_append]
      rfl
    · have hne : ¬ l.take k = [] := fun e => by
        have := congrArg List.length e
        simp only [List.length_take, List.length_nil] at this
        omega
      rw [decide_eq_true (show (k : Int) > 0 by omega), if_neg hne]
      simp only [cond_true]
      have z1 : (strOfNums (joinL sep (l.take k))).size + (strOfNums sep).size ≤ 1152921504606846976 := by simp only [strOfNums_size]; omega
      have z2 : (strOfNums (joinL sep (l.take k)) ++ strOfNums sep).size + (strOfNums (l.getD k [])).size ≤ 1152921504606846976 := by simp only [ByteArray.size_append, strOfNums_size]; omega
      simp only [if_pos z1, Option.bind_some, if_pos z2, str_append, List.append_assoc, ByteArray.append_assoc]
      rfl) (by
    simp only [spec_l00Join.s0, List.length_map]
    rw [decide_eq_false (by omega), List.take_length]; rfl)
  have this2 : loopO (fun s : ByteArray × Int => spec_l00Join.s0 (l.map strOfNums) (strOfNums sep) s.1 s.2) ((⟨#[]⟩ : ByteArray), 0) = _ := this
  rw [this2]; rfl

theorem encOps_len (l : List S_Op) (h : l.length ≤ 4) (ho : l.all opOK = true) : (encOps l []).length ≤ 9000000 := by
  have hb : ∀ o ∈ l, (encOp o []).length ≤ 2000000 := fun o hq => encOp_len (List.all_eq_true.1 ho o hq)
  rw [encOps_join]
  have key : ∀ m : List S_Op, (∀ o ∈ m, (encOp o []).length ≤ 2000000) → (joinL [59, 32] (m.map fun o => encOp o [])).length ≤ m.length * 2000002 := by
    intro m
    induction m with
    | nil => intro _; simp [joinL]
    | cons x r ih =>
      intro hm
      have hx := hm x (by simp)
      have ih' := ih (fun o hq => hm o (by simp [hq]))
      cases r with
      | nil => simp only [List.map_cons, List.map_nil, joinL, List.length_cons, List.length_nil]; omega
      | cons y q =>
        simp only [List.map_cons, joinL, List.length_append, List.length_cons, List.length_nil] at ih' ⊢
        omega
  have := key l hb
  have h4 : l.length * 2000002 ≤ 4 * 2000002 := Nat.mul_le_mul_right _ h
  omega
theorem txnText_run (L : List S_Txn) (j : Nat) (hj : j < L.length) (ht : txnOK (L.getD j z_Txn) = true) : (loopO (fun s : List ByteArray × Int => spec_l09Text.s1 L (j : Int) s.1 s.2) (([] : List ByteArray), 0)) = some (.out (((L.getD j z_Txn).Ops.map fun o => encOp o []).map strOfNums)) := by
  unfold txnOK at ht
  simp only [Bool.and_eq_true] at ht
  have hn := inB_iff.1 ht.2
  generalize hO : (L.getD j z_Txn).Ops = O at ht hn
  have := loopO_run (step := fun s : List ByteArray × Int => spec_l09Text.s1 L (j : Int) s.1 s.2) (fun k => (((O.take k).map fun o => encOp o []).map strOfNums, (k : Int))) O.length (r := .out ((O.map fun o => encOp o []).map strOfNums)) (fun k hk => by
    have hT : O.take (k + 1) = O.take k ++ [O.getD k z_Op] := by
      rw [List.take_add_one, List.getD_eq_getElem?_getD, List.getElem?_eq_getElem hk]; rfl
    have hok := List.all_eq_true.1 ht.1 _ (getD_mem hk z_Op)
    simp only [spec_l09Text.s1, if_pos (show (0 : Int) ≤ (j : Int) ∧ (j : Int) < (L.length : Int) by omega), Int.toNat_natCast, hO, decide_eq_true (show (k : Int) < (O.length : Int) by omega), cond_true, if_pos (show (0 : Int) ≤ (k : Int) ∧ (k : Int) < (O.length : Int) by omega), l09Op_eq _ hok, Option.bind_some]
    rw [if_pos (by simp; omega), w64_id (by omega) (by omega), hT]
    simp) (by
    simp only [spec_l09Text.s1, if_pos (show (0 : Int) ≤ (j : Int) ∧ (j : Int) < (L.length : Int) by omega), Int.toNat_natCast, hO]
    rw [decide_eq_false (by omega), List.take_length]; rfl)
  exact this
theorem batchOK_parts {l : List S_Txn} (h : batchOK l = true) : 1 ≤ l.length ∧ l.length ≤ 2 ∧ ∀ t ∈ l, txnOK t = true ∧ 1 ≤ t.Ops.length ∧ t.Ops.length ≤ 4 ∧ t.Ops.all opOK = true := by
  unfold batchOK at h
  simp only [Bool.and_eq_true] at h
  have hn := inB_iff.1 h.1
  refine ⟨by omega, by omega, fun t ht => ?_⟩
  have h2 := List.all_eq_true.1 h.2 t ht
  have h3 := h2
  unfold txnOK at h3
  simp only [Bool.and_eq_true] at h3
  have := inB_iff.1 h3.2
  exact ⟨h2, by omega, by omega, h3.1⟩
theorem l09Text_eq (L : List S_Txn) (h : batchOK L = true) : spec_l09Text.f L = some (strOfNums (encB L)) := by
  obtain ⟨n1, n2, hT⟩ := batchOK_parts h
  unfold spec_l09Text.f
  have h59 : (⟨#[59, 32]⟩ : ByteArray) = strOfNums [59, 32] := rfl
  have h124 : (⟨#[32, 124, 32]⟩ : ByteArray) = strOfNums [32, 124, 32] := rfl
  have := loopO_run (step := fun s : List ByteArray × Int => spec_l09Text.s0 L s.1 s.2) (fun k => (((L.take k).map fun t => encOps t.Ops []).map strOfNums, (k : Int))) L.length (r := .out ((L.map fun t => encOps t.Ops []).map strOfNums)) (fun k hk => by
    have hTk : L.take (k + 1) = L.take k ++ [L.getD k z_Txn] := by
      rw [List.take_add_one, List.getD_eq_getElem?_getD, List.getElem?_eq_getElem hk]; rfl
    obtain ⟨t1, t2, t3, t4⟩ := hT _ (getD_mem hk z_Txn)
    have hj := join_eq [59, 32] ((L.getD k z_Txn).Ops.map fun o => encOp o []) (by decide) (by simp only [List.length_map]; omega) (fun a ha => by
      obtain ⟨o, ho, rfl⟩ := List.mem_map.1 ha
      have := encOp_len (List.all_eq_true.1 t4 o ho); omega)
    rw [← encOps_join] at hj
    simp only [spec_l09Text.s0, decide_eq_true (show (k : Int) < (L.length : Int) by omega), cond_true, txnText_run L k hk t1, Option.bind_some, h59, hj]
    rw [if_pos (by simp; omega), w64_id (by omega) (by omega), hTk]
    simp) (by
    simp only [spec_l09Text.s0]
    rw [decide_eq_false (by omega), List.take_length]; rfl)
  have this2 : loopO (fun s : List ByteArray × Int => spec_l09Text.s0 L s.1 s.2) (([] : List ByteArray), 0) = _ := this
  rw [this2, h124]
  simp only [Option.bind_some]
  rw [join_eq [32, 124, 32] (L.map fun t => encOps t.Ops []) (by decide) (by simp only [List.length_map]; omega) (fun a ha => by
    obtain ⟨t, ht, rfl⟩ := List.mem_map.1 ha
    obtain ⟨t1, t2, t3, t4⟩ := hT t ht
    have := encOps_len t.Ops t3 t4; omega), ← encB_join]
  rfl

theorem id_laws_toOp (x : S_Op) : laws_toOp.f x = some x := by
  unfold laws_toOp.f
  rfl

theorem id_laws_toOpS (x : List S_Op) (h : x.length ≤ 1048576) : laws_toOpS.f x = some x := by
  have hlen : x.length ≤ 1048576 := h
  unfold laws_toOpS.f
  rw [if_pos (by omega)]
  have h0 : ((x.length : Int)).toNat = x.length := by simp
  rw [h0, ← filled_zero x z_Op]
  have := loopO_run (step := fun s => laws_toOpS.s0 x s.1 s.2) (fun k => (filled x z_Op k, (k : Int))) x.length (r := .out x) (fun k hk => by
    have hl := filled_len x z_Op k (by omega)
    simp only [laws_toOpS.s0, id_laws_toOp (x.getD k z_Op), decide_eq_true (show (k : Int) < (x.length : Int) by omega), cond_true, if_pos (show (0 : Int) ≤ (k : Int) ∧ (k : Int) < (x.length : Int) by omega), Option.bind_some, if_pos (show (0 : Int) ≤ (k : Int) ∧ (k : Int) < ((filled x z_Op k).length : Int) by omega), Int.toNat_natCast]
    rw [w64_id (by omega) (by omega), filled_set x z_Op k hk]
    rfl) (by
    simp only [laws_toOpS.s0, filled_all]
    rw [decide_eq_false (by omega)]; rfl)
  have this2 : loopO (fun s => laws_toOpS.s0 x s.1 s.2) (filled x z_Op 0, 0) = some (.out x) := this
  rw [this2]
  rfl

theorem id_laws_toTxn (x : S_Txn) (h : (x.Ops.length ≤ 1048576)) : laws_toTxn.f x = some x := by
  unfold laws_toTxn.f
  simp only [id_laws_toOpS x.Ops h, Option.bind_some]

theorem id_laws_toTxnS (x : List S_Txn) (h : x.length ≤ 1048576 ∧ ∀ z0 : S_Txn, z0 ∈ x → ((z0.Ops.length ≤ 1048576))) : laws_toTxnS.f x = some x := by
  have hlen : x.length ≤ 1048576 := h.1
  unfold laws_toTxnS.f
  rw [if_pos (by omega)]
  have h0 : ((x.length : Int)).toNat = x.length := by simp
  rw [h0, ← filled_zero x z_Txn]
  have := loopO_run (step := fun s => laws_toTxnS.s0 x s.1 s.2) (fun k => (filled x z_Txn k, (k : Int))) x.length (r := .out x) (fun k hk => by
    have hl := filled_len x z_Txn k (by omega)
    simp only [laws_toTxnS.s0, id_laws_toTxn (x.getD k z_Txn) (h.2 _ (getD_mem hk _)), decide_eq_true (show (k : Int) < (x.length : Int) by omega), cond_true, if_pos (show (0 : Int) ≤ (k : Int) ∧ (k : Int) < (x.length : Int) by omega), Option.bind_some, if_pos (show (0 : Int) ≤ (k : Int) ∧ (k : Int) < ((filled x z_Txn k).length : Int) by omega), Int.toNat_natCast]
    rw [w64_id (by omega) (by omega), filled_set x z_Txn k hk]
    rfl) (by
    simp only [laws_toTxnS.s0, filled_all]
    rw [decide_eq_false (by omega)]; rfl)
  have this2 : loopO (fun s => laws_toTxnS.s0 x s.1 s.2) (filled x z_Txn 0, 0) = some (.out x) := this
  rw [this2]
  rfl

theorem within_eq (x lo hi : Int) : impl_within.f x lo hi = some (inB x lo hi) := by
  unfold impl_within.f inB; cases decide (lo ≤ x) <;> rfl

theorem idx_slices_IndexFunc_impl_Txn_impl_Txn (l : List S_Txn) (q : S_Txn → Option Bool) (p : S_Txn → Bool) (h : l.length ≤ 1073741824) (hq : ∀ x, x ∈ l → q x = some (p x)) : slices_IndexFunc_impl_Txn_impl_Txn.f l q = some (idxOf l z_Txn p) := by
  unfold slices_IndexFunc_impl_Txn_impl_Txn.f idxOf
  have := loopO_find (step := fun s => slices_IndexFunc_impl_Txn_impl_Txn.s0 l q s) (fun k => (k : Int)) l.length (fun k => p (l.getD k z_Txn)) (fun k => (k : Int)) (t := ()) (fun k hk => by
    simp only [slices_IndexFunc_impl_Txn_impl_Txn.s0, decide_eq_true (show (k : Int) < (l.length : Int) by omega), cond_true, if_pos (show (0 : Int) ≤ (k : Int) ∧ (k : Int) < (l.length : Int) by omega), Int.toNat_natCast, hq _ (getD_mem hk _), Option.bind_some]
    rw [w64_id (by omega) (by omega)]
    cases p (l.getD k z_Txn) <;> rfl) (by
    simp only [slices_IndexFunc_impl_Txn_impl_Txn.s0]
    rw [decide_eq_false (by omega)]; rfl)
  rw [show ((0 : Int)) = ((0 : Nat) : Int) from rfl, this]
  cases (List.range l.length).find? (fun k => p (l.getD k z_Txn)) <;> rfl

theorem any_slices_ContainsFunc_impl_Txn_impl_Txn (l : List S_Txn) (q : S_Txn → Option Bool) (p : S_Txn → Bool) (h : l.length ≤ 1073741824) (hq : ∀ x, x ∈ l → q x = some (p x)) : slices_ContainsFunc_impl_Txn_impl_Txn.f l q = some (l.any p) := by
  unfold slices_ContainsFunc_impl_Txn_impl_Txn.f
  rw [idx_slices_IndexFunc_impl_Txn_impl_Txn l q p h hq, ← idxOf_any l z_Txn p]
  rfl

theorem all_impl_areAll_impl_Txn (l : List S_Txn) (q : S_Txn → Option Bool) (p : S_Txn → Bool) (h : l.length ≤ 1073741824) (hq : ∀ x, x ∈ l → q x = some (p x)) : impl_areAll_impl_Txn.f l q = some (l.all p) := by
  unfold impl_areAll_impl_Txn.f
  rw [any_slices_ContainsFunc_impl_Txn_impl_Txn l _ (fun x => !p x) h (fun x hx => by unfold impl_areAll_impl_Txn__c1.f; rw [hq x hx]; rfl)]
  simp only [Option.bind_some, List.any_eq_not_all_not, Bool.not_not]

theorem isKey_eq (x : Int) : impl_isKey.f x = some (inB x 1 9999) := by unfold impl_isKey.f; rw [within_eq]; rfl

theorem isBare_eq (x : Int) : impl_isBare.f x = some (x == 1 || x == 3) := by
  unfold impl_isBare.f
  cases x == 1 <;> rfl

theorem isValue_eq (x : Int) : impl_isValue.f x = some (inB x 0 999999) := by unfold impl_isValue.f; rw [within_eq]; rfl

theorem impl_OpOK_eq (o : S_Op) : impl_OpOK.f o = some (opOK o) := by
  unfold impl_OpOK.f impl_isBare.f opOK
  simp only [within_eq, isKey_eq, isValue_eq, Option.bind_some]
  cases inB o.Kind 1 6 <;> cases inB o.Key 1 9999 <;> cases o.Kind == 1 <;> cases o.Kind == 3 <;> cases o.Kind == 6 <;> rfl

theorem idx_slices_IndexFunc_impl_Op_impl_Op (l : List S_Op) (q : S_Op → Option Bool) (p : S_Op → Bool) (h : l.length ≤ 1073741824) (hq : ∀ x, x ∈ l → q x = some (p x)) : slices_IndexFunc_impl_Op_impl_Op.f l q = some (idxOf l z_Op p) := by
  unfold slices_IndexFunc_impl_Op_impl_Op.f idxOf
  have := loopO_find (step := fun s => slices_IndexFunc_impl_Op_impl_Op.s0 l q s) (fun k => (k : Int)) l.length (fun k => p (l.getD k z_Op)) (fun k => (k : Int)) (t := ()) (fun k hk => by
    simp only [slices_IndexFunc_impl_Op_impl_Op.s0, decide_eq_true (show (k : Int) < (l.length : Int) by omega), cond_true, if_pos (show (0 : Int) ≤ (k : Int) ∧ (k : Int) < (l.length : Int) by omega), Int.toNat_natCast, hq _ (getD_mem hk _), Option.bind_some]
    rw [w64_id (by omega) (by omega)]
    cases p (l.getD k z_Op) <;> rfl) (by
    simp only [slices_IndexFunc_impl_Op_impl_Op.s0]
    rw [decide_eq_false (by omega)]; rfl)
  rw [show ((0 : Int)) = ((0 : Nat) : Int) from rfl, this]
  cases (List.range l.length).find? (fun k => p (l.getD k z_Op)) <;> rfl

theorem any_slices_ContainsFunc_impl_Op_impl_Op (l : List S_Op) (q : S_Op → Option Bool) (p : S_Op → Bool) (h : l.length ≤ 1073741824) (hq : ∀ x, x ∈ l → q x = some (p x)) : slices_ContainsFunc_impl_Op_impl_Op.f l q = some (l.any p) := by
  unfold slices_ContainsFunc_impl_Op_impl_Op.f
  rw [idx_slices_IndexFunc_impl_Op_impl_Op l q p h hq, ← idxOf_any l z_Op p]
  rfl

theorem all_impl_areAll_impl_Op (l : List S_Op) (q : S_Op → Option Bool) (p : S_Op → Bool) (h : l.length ≤ 1073741824) (hq : ∀ x, x ∈ l → q x = some (p x)) : impl_areAll_impl_Op.f l q = some (l.all p) := by
  unfold impl_areAll_impl_Op.f
  rw [any_slices_ContainsFunc_impl_Op_impl_Op l _ (fun x => !p x) h (fun x hx => by unfold impl_areAll_impl_Op__c1.f; rw [hq x hx]; rfl)]
  simp only [Option.bind_some, List.any_eq_not_all_not, Bool.not_not]

theorem isTxn_eq (t : S_Txn) (h : t.Ops.length ≤ 1073741824) : impl_isTxn.f t = some (txnOK t) := by
  unfold impl_isTxn.f txnOK
  rw [all_impl_areAll_impl_Op t.Ops _ opOK h (fun x _ => impl_OpOK_eq x)]
  simp only [within_eq, Option.bind_some]
  cases inB (t.Ops.length : Int) 1 4 <;> cases t.Ops.all opOK <;> rfl

theorem impl_BatchOK_eq (l : List S_Txn) (h : l.length ≤ 1073741824 ∧ ∀ y, y ∈ l → y.Ops.length ≤ 1073741824) : impl_BatchOK.f l = some (batchOK l) := by
  unfold impl_BatchOK.f batchOK
  rw [all_impl_areAll_impl_Txn l _ txnOK h.1 (fun x hx => isTxn_eq x (h.2 x hx))]
  simp only [within_eq, Option.bind_some]
  cases inB (l.length : Int) 1 2 <;> cases l.all txnOK <;> rfl

theorem decDigits_digL (n : Nat) : (Lib.decDigits n).map (fun b => (b.toNat : Int)) = digL n := by
  induction n using Nat.strongRecOn with
  | ind n ih =>
    rw [Lib.decDigits, digL]
    by_cases h : n < 10
    · rw [dif_pos h, if_pos h]
      have : (UInt8.ofNat (48 + n)).toNat = 48 + n := by rw [UInt8.toNat_ofNat']; omega
      simp only [List.map_cons, List.map_nil, this]; rfl
    · rw [dif_neg h, if_neg h, List.map_append, ih (n / 10) (by omega)]
      have : (UInt8.ofNat (48 + n % 10)).toNat = 48 + n % 10 := by rw [UInt8.toNat_ofNat']; omega
      simp only [List.map_cons, List.map_nil, this]; rfl
theorem itoa_eq (x : Int) (h0 : 0 ≤ x) (h1 : x ≤ 9223372036854775807) : strconv_Itoa.f x = some (strOfNums (digL x.toNat)) := by
  unfold strconv_Itoa.f itoaB Lib.itoa
  rw [if_pos ⟨by omega, h1⟩, if_neg (by omega)]
  congr 1
  apply ba_ext
  rw [bytes_str (digL_isB _)]
  exact decDigits_digL _

theorem opText_eq (o : S_Op) (ho : opOK o = true) : impl_opText.f o = some (strOfNums (encOp o [])) := by
  obtain ⟨ok1, ok2, ok3, ok4⟩ := opOK_parts ho
  have h1 := (digL_len o.Key.toNat).2
  have h2 := (digL_len o.Value.toNat).2
  unfold impl_opText.f impl_opWords.f
  simp only [Option.bind_some]
  rw [if_pos (by simp; omega), itoa_eq o.Key (by omega) (by omega)]
  simp only [Option.bind_some, isBare_eq]
  have hword : ([(⟨#[]⟩ : ByteArray), (⟨#[103, 101, 116]⟩ : ByteArray), (⟨#[112, 117, 116]⟩ : ByteArray), (⟨#[100, 114, 111, 112]⟩ : ByteArray), (⟨#[99, 104, 101, 99, 107]⟩ : ByteArray), (⟨#[97, 100, 100]⟩ : ByteArray), (⟨#[115, 99, 97, 110]⟩ : ByteArray)]).getD o.Kind.toNat ByteArray.empty = strOfNums (wordL o.Kind) := by
    have ho1 : o.Kind = 1 ∨ o.Kind = 2 ∨ o.Kind = 3 ∨ o.Kind = 4 ∨ o.Kind = 5 ∨ o.Kind = 6 := by omega
    rcases ho1 with e | e | e | e | e | e <;> rw [e] <;> rfl
  have h32 : (⟨#[32]⟩ : ByteArray) = strOfNums [32] := rfl
  have hw := wordL_len o.Kind
  rw [hword, h32, ← str_append, ← str_append]
  simp only [strOfNums_size, List.length_append, List.length_cons, List.length_nil]
  rw [if_pos (by omega), if_pos (by omega)]
  by_cases hb : o.Kind = 1 ∨ o.Kind = 3
  · have hu : (o.Kind == 1 || o.Kind == 3) = true := by simpa using hb
    simp only [hu, cond_true]
    unfold encOp
    rw [if_pos hb]; simp
  · have hu : (o.Kind == 1 || o.Kind == 3) = false := by simpa using hb
    simp only [hu, cond_false, itoa_eq o.Value (by omega) (by omega), Option.bind_some]
    rw [if_pos (by omega), ← str_append, ← str_append]
    simp only [strOfNums_size, List.length_append, List.length_cons, List.length_nil]
    rw [if_pos (by omega)]
    unfold encOp
    rw [if_neg hb]; simp

theorem join_map (f : Int → UInt8) (sep : List Int) : ∀ l : List (List Int), Lib.join (l.map (·.map f)) (sep.map f) = (joinL sep l).map f
  | [] => rfl
  | [a] => by simp [joinL, Lib.join_one]
  | a :: b :: r => by
    have ih := join_map f sep (b :: r)
    simp only [List.map_cons, joinL, List.map_append] at ih ⊢
    rw [← ih]
    simp [Lib.join, List.intercalate]
theorem joinB_eq (sep : List Int) (l : List (List Int)) : joinB (l.map strOfNums) (strOfNums sep) = strOfNums (joinL sep l) := by
  have h : ∀ m : List Int, (strOfNums m).data.toList = m.map (fun x => UInt8.ofNat x.toNat) := fun m => by simp [strOfNums]
  unfold joinB
  have e : (l.map strOfNums).map (·.data.toList) = l.map (·.map (fun x => UInt8.ofNat x.toNat)) := by
    rw [List.map_map]
    exact List.map_congr_left fun a _ => h a
  rw [e, h, join_map, ← h]
theorem sjoin_eq (sep : List Int) (l : List (List Int)) (hl : l.length ≤ 1000) (hb : (joinL sep l).length ≤ 100000000) : strings_Join.f (l.map strOfNums) (strOfNums sep) = some (strOfNums (joinL sep l)) := by
  unfold strings_Join.f
  rw [joinB_eq, if_pos ⟨by simp only [List.length_map]; omega, by rw [strOfNums_size]; omega⟩]

theorem itxnText_run (L : List S_Txn) (j : Nat) (hj : j < L.length) (ht : txnOK (L.getD j z_Txn) = true) : (loopO (fun s : List ByteArray × Int => impl_batchText.s1 L (j : Int) s.1 s.2) (([] : List ByteArray), 0)) = some (.out (((L.getD j z_Txn).Ops.map fun o => encOp o []).map strOfNums)) := by
  unfold txnOK at ht
  simp only [Bool.and_eq_true] at ht
  have hn := inB_iff.1 ht.2
  generalize hO : (L.getD j z_Txn).Ops = O at ht hn
  have := loopO_run (step := fun s : List ByteArray × Int => impl_batchText.s1 L (j : Int) s.1 s.2) (fun k => (((O.take k).map fun o => encOp o []).map strOfNums, (k : Int))) O.length (r := .out ((O.map fun o => encOp o []).map strOfNums)) (fun k hk => by
    have hT : O.take (k + 1) = O.take k ++ [O.getD k z_Op] := by
      rw [List.take_add_one, List.getD_eq_getElem?_getD, List.getElem?_eq_getElem hk]; rfl
    have hok := List.all_eq_true.1 ht.1 _ (getD_mem hk z_Op)
    simp only [impl_batchText.s1, Int.toNat_natCast, hO, decide_eq_true (show (k : Int) < (O.length : Int) by omega), cond_true, if_pos (show (0 : Int) ≤ (k : Int) ∧ (k : Int) < (O.length : Int) by omega), opText_eq _ hok, Option.bind_some]
    rw [if_pos (by simp; omega), w64_id (by omega) (by omega), hT]
    simp) (by
    simp only [impl_batchText.s1, Int.toNat_natCast, hO]
    rw [decide_eq_false (by omega), List.take_length]; rfl)
  exact this
theorem batchText_eq (L : List S_Txn) (h : batchOK L = true) : impl_batchText.f L = some (strOfNums (encB L)) := by
  obtain ⟨n1, n2, hT⟩ := batchOK_parts h
  unfold impl_batchText.f
  have h59 : (⟨#[59, 32]⟩ : ByteArray) = strOfNums [59, 32] := rfl
  have h124 : (⟨#[32, 124, 32]⟩ : ByteArray) = strOfNums [32, 124, 32] := rfl
  have := loopO_run (step := fun s : List ByteArray × Int => impl_batchText.s0 L s.1 s.2) (fun k => (((L.take k).map fun t => encOps t.Ops []).map strOfNums, (k : Int))) L.length (r := .out ((L.map fun t => encOps t.Ops []).map strOfNums)) (fun k hk => by
    have hTk : L.take (k + 1) = L.take k ++ [L.getD k z_Txn] := by
      rw [List.take_add_one, List.getD_eq_getElem?_getD, List.getElem?_eq_getElem hk]; rfl
    obtain ⟨t1, t2, t3, t4⟩ := hT _ (getD_mem hk z_Txn)
    have hlen := encOps_len _ t3 t4
    rw [encOps_join] at hlen
    have hj := sjoin_eq [59, 32] ((L.getD k z_Txn).Ops.map fun o => encOp o []) (by simp only [List.length_map]; omega) (by omega)
    rw [← encOps_join] at hj
    simp only [impl_batchText.s0, decide_eq_true (show (k : Int) < (L.length : Int) by omega), cond_true, if_pos (show (0 : Int) ≤ (k : Int) ∧ (k : Int) < (L.length : Int) by omega), itxnText_run L k hk t1, Option.bind_some, h59, hj]
    rw [if_pos (by simp; omega), w64_id (by omega) (by omega), hTk]
    simp) (by
    simp only [impl_batchText.s0]
    rw [decide_eq_false (by omega), List.take_length]; rfl)
  have this2 : loopO (fun s : List ByteArray × Int => impl_batchText.s0 L s.1 s.2) (([] : List ByteArray), 0) = _ := this
  rw [this2, h124]
  simp only [Option.bind_some]
  have key : ∀ m : List (List Int), (∀ a ∈ m, a.length ≤ 9000000) → (joinL [32, 124, 32] m).length ≤ m.length * 9000003 := by
    intro m
    induction m with
    | nil => intro _; simp [joinL]
    | cons x r ih =>
      intro hm
      have hx := hm x (by simp)
      have ih' := ih (fun o hq => hm o (by simp [hq]))
      cases r with
      | nil => simp only [joinL, List.length_cons, List.length_nil]; omega
      | cons y q =>
        simp only [joinL, List.length_append, List.length_cons, List.length_nil] at ih' ⊢
        omega
  have hk := key (L.map fun t => encOps t.Ops []) (fun a ha => by
    obtain ⟨t, ht, rfl⟩ := List.mem_map.1 ha
    obtain ⟨t1, t2, t3, t4⟩ := hT t ht
    exact encOps_len t.Ops t3 t4)
  rw [List.length_map] at hk
  rw [sjoin_eq [32, 124, 32] (L.map fun t => encOps t.Ops []) (by simp only [List.length_map]; omega) (by omega), ← encB_join]
  rfl

theorem refl_laws_eqOp (x : S_Op) : laws_eqOp.f x x = some true := by
  unfold laws_eqOp.f
  simp only [bne_self_eq_false, beq_self_eq_true, Bool.not_true, cond_false, Option.bind_some]

theorem reflF_laws_eqOp (x : S_Op) : laws_eqOp.f x x = some true := by
  unfold laws_eqOp.f
  simp only [bne_self_eq_false, beq_self_eq_true, bs_self, Bool.not_true, cond_false, Option.bind_some]

theorem refl_laws_eqOpS (x : List S_Op) (h : x.length ≤ 1048576) : laws_eqOpS.f x x = some true := by
  have hlen : x.length ≤ 1048576 := h
  unfold laws_eqOpS.f
  rw [show ((x.length : Int) != (x.length : Int)) = false from by simp]
  have := loopO_run (step := fun s => laws_eqOpS.s0 x x s) (fun k => (k : Int)) x.length (r := .out ()) (fun k hk => by
    simp only [laws_eqOpS.s0, decide_eq_true (show (k : Int) < (x.length : Int) by omega), cond_true, if_pos (show (0 : Int) ≤ (k : Int) ∧ (k : Int) < (x.length : Int) by omega), Int.toNat_natCast, refl_laws_eqOp (x.getD k z_Op), bne_self_eq_false, beq_self_eq_true, Bool.not_true, cond_false, Option.bind_some]
    rw [w64_id (by omega) (by omega)]
    rfl) (by
    simp only [laws_eqOpS.s0]
    rw [decide_eq_false (by omega)]; rfl)
  rw [show ((0 : Int)) = ((0 : Nat) : Int) from rfl, this]
  rfl

theorem reflL_laws_eqOpS (x : List S_Op) (h : x.length ≤ 1048576) : laws_eqOpS.f x x = some true := by
  have hlen : x.length ≤ 1048576 := h
  unfold laws_eqOpS.f
  rw [show ((x.length : Int) != (x.length : Int)) = false from by simp]
  have := loopO_run (step := fun s => laws_eqOpS.s0 x x s) (fun k => (k : Int)) x.length (r := .out ()) (fun k hk => by
    simp only [laws_eqOpS.s0, decide_eq_true (show (k : Int) < (x.length : Int) by omega), cond_true, if_pos (show (0 : Int) ≤ (k : Int) ∧ (k : Int) < (x.length : Int) by omega), Int.toNat_natCast, reflF_laws_eqOp (x.getD k z_Op), bne_self_eq_false, beq_self_eq_true, bs_self, Bool.not_true, cond_false, Option.bind_some]
    rw [w64_id (by omega) (by omega)]
    rfl) (by
    simp only [laws_eqOpS.s0]
    rw [decide_eq_false (by omega)]; rfl)
  rw [show ((0 : Int)) = ((0 : Nat) : Int) from rfl, this]
  rfl

theorem refl_laws_eqTxn (x : S_Txn) (h : (x.Ops.length ≤ 1048576)) : laws_eqTxn.f x x = some true := by
  unfold laws_eqTxn.f
  simp only [refl_laws_eqOpS x.Ops h, bne_self_eq_false, beq_self_eq_true, Bool.not_true, cond_false, Option.bind_some]

theorem reflL_laws_eqTxn (x : S_Txn) (h : (x.Ops.length ≤ 1048576)) : laws_eqTxn.f x x = some true := by
  unfold laws_eqTxn.f
  simp only [reflL_laws_eqOpS x.Ops h, bne_self_eq_false, beq_self_eq_true, bs_self, Bool.not_true, cond_false, Option.bind_some]

theorem refl_laws_eqTxnS (x : List S_Txn) (h : x.length ≤ 1048576 ∧ ∀ z0 : S_Txn, z0 ∈ x → ((z0.Ops.length ≤ 1048576))) : laws_eqTxnS.f x x = some true := by
  have hlen : x.length ≤ 1048576 := h.1
  unfold laws_eqTxnS.f
  rw [show ((x.length : Int) != (x.length : Int)) = false from by simp]
  have := loopO_run (step := fun s => laws_eqTxnS.s0 x x s) (fun k => (k : Int)) x.length (r := .out ()) (fun k hk => by
    simp only [laws_eqTxnS.s0, decide_eq_true (show (k : Int) < (x.length : Int) by omega), cond_true, if_pos (show (0 : Int) ≤ (k : Int) ∧ (k : Int) < (x.length : Int) by omega), Int.toNat_natCast, refl_laws_eqTxn (x.getD k z_Txn) (h.2 _ (getD_mem hk _)), bne_self_eq_false, beq_self_eq_true, Bool.not_true, cond_false, Option.bind_some]
    rw [w64_id (by omega) (by omega)]
    rfl) (by
    simp only [laws_eqTxnS.s0]
    rw [decide_eq_false (by omega)]; rfl)
  rw [show ((0 : Int)) = ((0 : Nat) : Int) from rfl, this]
  rfl

theorem reflL_laws_eqTxnS (x : List S_Txn) (h : x.length ≤ 1048576 ∧ ∀ z0 : S_Txn, z0 ∈ x → ((z0.Ops.length ≤ 1048576))) : laws_eqTxnS.f x x = some true := by
  have hlen : x.length ≤ 1048576 := h.1
  unfold laws_eqTxnS.f
  rw [show ((x.length : Int) != (x.length : Int)) = false from by simp]
  have := loopO_run (step := fun s => laws_eqTxnS.s0 x x s) (fun k => (k : Int)) x.length (r := .out ()) (fun k hk => by
    simp only [laws_eqTxnS.s0, decide_eq_true (show (k : Int) < (x.length : Int) by omega), cond_true, if_pos (show (0 : Int) ≤ (k : Int) ∧ (k : Int) < (x.length : Int) by omega), Int.toNat_natCast, reflL_laws_eqTxn (x.getD k z_Txn) (h.2 _ (getD_mem hk _)), bne_self_eq_false, beq_self_eq_true, bs_self, Bool.not_true, cond_false, Option.bind_some]
    rw [w64_id (by omega) (by omega)]
    rfl) (by
    simp only [laws_eqTxnS.s0]
    rw [decide_eq_false (by omega)]; rfl)
  rw [show ((0 : Int)) = ((0 : Nat) : Int) from rfl, this]
  rfl

end Go.Proofs.YteablpohefcohaaDoor
