/- What the models of these functions come to. -/
import Derived.Test.YtmgfkpfacdlfbaaP0
import Derived.Test.YtmgfkpfacdlfbaaGXEntryTextn1
namespace Go.Proofs.Ytmgfkpfacdlfbaa
open Go Go.Z Go.Proofs Go.MuLone Go.ChangeShapes Go.WideShapes Go.ChangeAt Go.RowKit
set_option linter.unusedVariables false
set_option linter.unusedSimpArgs false
def opOK (o : S_Op) : Bool :=
  inB o.Kind 1 6 && inB o.Key 1 9999 && (bif o.Kind == 1 || o.Kind == 3 then o.Value == 0 else bif o.Kind == 6 then inB o.Value 1 4 else inB o.Value 0 999999)

def wordL (k : Int) : List Int := if k = 1 then [103, 101, 116] else if k = 2 then [112, 117, 116] else if k = 3 then [100, 114, 111, 112] else if k = 4 then [99, 104, 101, 99, 107] else if k = 5 then [97, 100, 100] else [115, 99, 97, 110]
def encOp (o : S_Op) (r : List Int) : List Int := wordL o.Kind ++ (32 :: (digL o.Key.toNat ++ (if o.Kind = 1 ∨ o.Kind = 3 then r else 32 :: (digL o.Value.toNat ++ r))))
theorem encOp_app (o : S_Op) (r : List Int) : encOp o r = encOp o [] ++ r := by
  unfold encOp
  split <;> simp
def encOps : List S_Op → List Int → List Int
  | [], r => r
  | [o], r => encOp o r
  | o :: p :: l, r => encOp o (59 :: 32 :: encOps (p :: l) r)
def encB : List S_Txn → List Int
  | [] => []
  | [t] => encOps t.Ops []
  | t :: u :: l => encOps t.Ops (32 :: 124 :: 32 :: encB (u :: l))
theorem encOps_app : ∀ (l : List S_Op) (r : List Int), encOps l r = encOps l [] ++ r
  | [], r => by simp [encOps]
  | [o], r => encOp_app o r
  | o :: p :: l, r => by
    have ih := encOps_app (p :: l) r
    simp only [encOps]
    rw [encOp_app o (59 :: 32 :: encOps (p :: l) r), encOp_app o (59 :: 32 :: encOps (p :: l) []), ih]
    simp
theorem encOps_join : ∀ l : List S_Op, encOps l [] = joinL [59, 32] (l.map fun o => encOp o [])
  | [] => rfl
  | [o] => rfl
  | o :: p :: l => by
    have ih := encOps_join (p :: l)
    simp only [encOps, List.map_cons, joinL] at ih ⊢
    rw [encOp_app, ih]
    simp
theorem encB_join : ∀ l : List S_Txn, encB l = joinL [32, 124, 32] (l.map fun t => encOps t.Ops [])
  | [] => rfl
  | [t] => rfl
  | t :: u :: l => by
    have ih := encB_join (u :: l)
    simp only [encB, List.map_cons, joinL] at ih ⊢
    rw [encOps_app, ih]
    simp
theorem ND_nil : ND [] := fun x r h => by cases h
theorem ND_cons {x : Int} {r : List Int} (h : ¬ isDg x) : ND (x :: r) := fun y s e => by cases e; exact h

def opI (L : List Int) (s : Nat × Bool) : S_Op × (Nat × Bool) := (⟨(nI L 1 6 s).1, (nI L 1 9999 (nI L 1 6 s).2).1, (nI L 0 999999 (nI L 1 9999 (nI L 1 6 s).2).2).1⟩, (nI L 0 999999 (nI L 1 9999 (nI L 1 6 s).2).2).2)
def opS (L : List Int) (q : Nat) : S_Op × Nat := (⟨(nS L q).1, (nS L (nS L q).2).1, (nS L (nS L (nS L q).2).2).1⟩, (nS L (nS L (nS L q).2).2).2)
def rngO (b : S_Op) : Bool := inB b.Kind 1 6 && inB b.Key 1 9999 && inB b.Value 0 999999
theorem op_pair (L : List Int) : RPair L (opI L) (opS L) rngO :=
  RPair.seq (α := Int × Int) (RPair.seq (RPair.base L 1 6 (by decide)) (RPair.base L 1 9999 (by decide)) Prod.mk (fun ab => inB ab.1 1 6 && inB ab.2 1 9999) (fun _ _ => rfl)) (RPair.base L 0 999999 (by decide)) (fun ab c => ⟨ab.1, ab.2, c⟩) rngO (fun _ _ => rfl)
theorem opS_le {L : List Int} {q : Nat} (h : q ≤ L.length + 1) : (opS L q).2 ≤ L.length + 1 := nS_le (nS_le (nS_le h))
def txI (L : List Int) (s : Nat × Bool) : S_Txn × (Nat × Bool) := (⟨(rep (opI L) (nI L 1 4 s).1.toNat (nI L 1 4 s).2).1⟩, (rep (opI L) (nI L 1 4 s).1.toNat (nI L 1 4 s).2).2)
def txS (L : List Int) (q : Nat) : S_Txn × Nat := (⟨(rep (opS L) (cS L 4 q).1.toNat (cS L 4 q).2).1⟩, (rep (opS L) (cS L 4 q).1.toNat (cS L 4 q).2).2)
def rngT (t : S_Txn) : Bool := inB (t.Ops.length : Int) 1 4 && t.Ops.all rngO
theorem tx_pair (L : List Int) : RPair L (txI L) (txS L) rngT := RPair.count (op_pair L) 4 (fun l => (⟨l⟩ : S_Txn)) rngT (by decide) (fun _ => rfl)
theorem txS_le {L : List Int} {q : Nat} (h : q ≤ L.length + 1) : (txS L q).2 ≤ L.length + 1 := rep_le (f := opS L) (fun q hq => opS_le hq) _ _ (cS_le h)
def enI (L : List Int) (s : Nat × Bool) : (List Int × List S_Txn) × (Nat × Bool) :=
  (((rep (nI L 0 7) 40 s).1, (rep (txI L) (nI L 1 2 (rep (nI L 0 7) 40 s).2).1.toNat (nI L 1 2 (rep (nI L 0 7) 40 s).2).2).1), (rep (txI L) (nI L 1 2 (rep (nI L 0 7) 40 s).2).1.toNat (nI L 1 2 (rep (nI L 0 7) 40 s).2).2).2)
def enS (L : List Int) (q : Nat) : (List Int × List S_Txn) × Nat :=
  (((rep (nS L) 40 q).1, (rep (txS L) (cS L 2 (rep (nS L) 40 q).2).1.toNat (cS L 2 (rep (nS L) 40 q).2).2).1), (rep (txS L) (cS L 2 (rep (nS L) 40 q).2).1.toNat (cS L 2 (rep (nS L) 40 q).2).2).2)
def rngE (x : List Int × List S_Txn) : Bool := x.1.all (fun y => inB y 0 7) && (inB (x.2.length : Int) 1 2 && x.2.all rngT)
theorem en_pair (L : List Int) : RPair L (enI L) (enS L) rngE :=
  RPair.seq ((RPair.base L 0 7 (by decide)).reps 40) (RPair.count (tx_pair L) 2 (fun l => l) (fun l => inB (l.length : Int) 1 2 && l.all rngT) (by decide) (fun _ => rfl)) Prod.mk rngE (fun _ _ => rfl)
theorem nI_cnt (L : List Int) (hi : Int) (h : 0 ≤ hi) (s : Nat × Bool) (lo : Int) (hlo : 0 ≤ lo) : 0 ≤ (nI L lo hi s).1 ∧ (nI L lo hi s).1 ≤ hi := by
  unfold nI
  split
  · exact ⟨Int.le_refl _, h⟩
  · split
    · rename_i q; have h2 := inB_iff.1 q.2; exact ⟨by omega, h2.2⟩
    · exact ⟨Int.le_refl _, h⟩
theorem cS_cnt (L : List Int) (most : Int) (h : 0 ≤ most) (q : Nat) : 0 ≤ (cS L most q).1 ∧ (cS L most q).1 ≤ most := by
  unfold cS; split
  · rename_i hq; exact inB_iff.1 hq
  · exact ⟨Int.le_refl _, h⟩
theorem txI_len (L : List Int) (s : Nat × Bool) : (txI L s).1.Ops.length ≤ 4 := by
  have := nI_cnt L 4 (by decide) s 1 (by decide)
  unfold txI; simp only [rep_len]; omega
theorem txS_len (L : List Int) (q : Nat) : (txS L q).1.Ops.length ≤ 4 := by
  have := cS_cnt L 4 (by decide) q
  unfold txS; simp only [rep_len]; omega
theorem rep_all {σ α : Type} (f : σ → α × σ) (P : α → Prop) (h : ∀ s, P (f s).1) : ∀ (n : Nat) (s : σ), ∀ x ∈ (rep f n s).1, P x
  | 0, s, x, hx => by simp [rep] at hx
  | n + 1, s, x, hx => by
    simp only [rep, List.mem_append, List.mem_singleton] at hx
    rcases hx with hx | rfl
    · exact rep_all f P h n s x hx
    · exact h _

def opInts (l : List S_Op) : List Int := l.flatMap (fun o => [o.Kind, o.Key, o.Value])
theorem opInts_snoc (l : List S_Op) (b : S_Op) : opInts (l ++ [b]) = opInts l ++ [b.Kind, b.Key, b.Value] := by simp [opInts]
theorem opInts_len (l : List S_Op) : (opInts l).length = 3 * l.length := by
  induction l with
  | nil => rfl
  | cons a l ih =>
    show ([a.Kind, a.Key, a.Value] ++ opInts l).length = _
    rw [List.length_append, ih]; simp only [List.length_cons, List.length_nil]; omega
def txnInts (l : List S_Txn) : List Int := l.flatMap (fun t => [(t.Ops.length : Int)] ++ opInts t.Ops)
theorem txnInts_snoc (l : List S_Txn) (b : S_Txn) : txnInts (l ++ [b]) = txnInts l ++ [(b.Ops.length : Int)] ++ opInts b.Ops := by simp [txnInts]
theorem txnInts_len : ∀ (l : List S_Txn), (∀ t ∈ l, t.Ops.length ≤ 4) → (txnInts l).length ≤ 13 * l.length
  | [], _ => Nat.le_refl _
  | a :: l, h => by
    have ih := txnInts_len l (fun t ht => h t (List.mem_cons_of_mem _ ht))
    have h1 := h a (List.mem_cons_self ..)
    have h2 := opInts_len a.Ops
    show (([(a.Ops.length : Int)] ++ opInts a.Ops) ++ txnInts l).length ≤ _
    simp only [List.length_append, List.length_cons, List.length_nil]; omega

theorem ok_laws_szOpS (x : List S_Op) (n : Int) (h0 : 0 ≤ n) (h1 : n ≤ 1048576) (g : (x.length ≤ maxLen ∧ ∀ y : S_Op, y ∈ x → (((Lit.int .i64 y.Kind).wf = true) ∧ ((Lit.int .i64 y.Key).wf = true) ∧ ((Lit.int .i64 y.Value).wf = true)))) : ∃ m, laws_szOpS.f x n = some m ∧ (m < 0 ∨ (0 ≤ m ∧ m ≤ n ∧ (x.length ≤ 1048576))) := by
  have hM : maxLen = 9223372036854775807 := rfl
  have g1 := g.1
  unfold laws_szOpS.f
  rw [w64_id (x := n - (x.length : Int)) (by omega) (by omega)]
  by_cases h : n - (x.length : Int) < 0
  · rw [decide_eq_true h]; exact ⟨_, rfl, .inl (by decide)⟩
  rw [decide_eq_false h]; simp only [cond_false]
  exact ⟨_, rfl, .inr ⟨by omega, by omega, by omega⟩⟩

theorem ok_laws_szTxn (x : S_Txn) (n : Int) (h0 : 0 ≤ n) (h1 : n ≤ 1048576) (g : ((x.Ops.length ≤ maxLen ∧ ∀ y : S_Op, y ∈ x.Ops → (((Lit.int .i64 y.Kind).wf = true) ∧ ((Lit.int .i64 y.Key).wf = true) ∧ ((Lit.int .i64 y.Value).wf = true))))) : ∃ m, laws_szTxn.f x n = some m ∧ (m < 0 ∨ (0 ≤ m ∧ m ≤ n ∧ ((x.Ops.length ≤ 1048576)))) := by
  have hM : maxLen = 9223372036854775807 := rfl
  unfold laws_szTxn.f
  obtain ⟨m1, e1, c1⟩ := ok_laws_szOpS x.Ops n (by omega) (by omega) g
  rw [e1]; simp only [Option.bind_some]
  rcases c1 with c1 | ⟨p1, q1, r1⟩
  · rw [decide_eq_true c1]; exact ⟨_, rfl, .inl (by decide)⟩
  rw [decide_eq_false (show ¬ m1 < 0 by omega)]; simp only [cond_false]
  exact ⟨_, rfl, .inr ⟨by omega, by omega, r1⟩⟩

theorem ok_laws_szTxnS (x : List S_Txn) (n : Int) (h0 : 0 ≤ n) (h1 : n ≤ 1048576) (g : (x.length ≤ maxLen ∧ ∀ y : S_Txn, y ∈ x → ((y.Ops.length ≤ maxLen ∧ ∀ y1 : S_Op, y1 ∈ y.Ops → (((Lit.int .i64 y1.Kind).wf = true) ∧ ((Lit.int .i64 y1.Key).wf = true) ∧ ((Lit.int .i64 y1.Value).wf = true)))))) : ∃ m, laws_szTxnS.f x n = some m ∧ (m < 0 ∨ (0 ≤ m ∧ m ≤ n ∧ (x.length ≤ 1048576 ∧ ∀ z0 : S_Txn, z0 ∈ x → ((z0.Ops.length ≤ 1048576))))) := by
  have hM : maxLen = 9223372036854775807 := rfl
  have g1 := g.1
  unfold laws_szTxnS.f
  rw [w64_id (x := n - (x.length : Int)) (by omega) (by omega)]
  by_cases h : n - (x.length : Int) < 0
  · rw [decide_eq_true h]; exact ⟨_, rfl, .inl (by decide)⟩
  rw [decide_eq_false h]; simp only [cond_false]
  obtain ⟨r, e1, e2⟩ := loopO_wf (step := fun s : Int × Int => laws_szTxnS.s0 x s.1 s.2) (fun s => ∃ k : Nat, ∃ m : Int, s = (m, (k : Int)) ∧ k ≤ x.length ∧ 0 ≤ m ∧ m ≤ n ∧ ∀ j, j < k → ((((x.getD j z_Txn).Ops).length ≤ 1048576)))
    (fun r : Ex Int Int => match r with | .out m => 0 ≤ m ∧ m ≤ n ∧ ∀ j, j < x.length → ((((x.getD j z_Txn).Ops).length ≤ 1048576)) | .ret m => m < 0) (fun s => x.length - s.2.toNat) (fun s hI => by
      obtain ⟨k, m, rfl, hk, m0, m1, hj⟩ := hI
      by_cases hlt : k < x.length
      · have gk := g.2 (x.getD k z_Txn) (getD_mem hlt _)
        simp only [laws_szTxnS.s0, decide_eq_true (show (k : Int) < (x.length : Int) by omega), cond_true, if_pos (show (0 : Int) ≤ (k : Int) ∧ (k : Int) < (x.length : Int) by omega), Int.toNat_natCast]
        obtain ⟨m2, e3, h3⟩ := ok_laws_szTxn (x.getD k z_Txn) m m0 (by omega) gk
        rw [e3]; simp only [Option.bind_some]
        rcases h3 with h3 | ⟨h3, h4, h5⟩
        · rw [decide_eq_true h3]; exact .inr ⟨.ret (-1), rfl, (by decide : (-1 : Int) < 0)⟩
        · rw [decide_eq_false (show ¬ m2 < 0 by omega), w64_id (x := (k : Int) + 1) (by omega) (by omega)]
          refine .inl ⟨(m2, ((k + 1 : Nat) : Int)), rfl, ⟨k + 1, _, rfl, by omega, h3, by omega, fun j hj2 => ?_⟩, by simp only [Int.toNat_natCast]; omega⟩
          rcases Nat.lt_or_ge j k with h | h
          · exact hj j h
          · have : j = k := by omega
            rw [this]; exact h5
      · refine .inr ⟨.out m, ?_, m0, m1, fun j hj2 => hj j (by omega)⟩
        simp only [laws_szTxnS.s0]; rw [decide_eq_false (by omega)]; rfl) _ (n - (x.length : Int), 0) (Nat.le_refl _) ⟨0, _, rfl, Nat.zero_le _, by omega, by omega, fun j hj => by omega⟩
  rw [e1]
  cases r with
  | out m => exact ⟨m, rfl, .inr ⟨e2.1, e2.2.1, by omega, all_get e2.2.2⟩⟩
  | ret m => exact ⟨m, rfl, .inl e2⟩

theorem l01In_eq (x lo hi : Int) : spec_l01In.f x lo hi = some (inB x lo hi) := by
  unfold spec_l01In.f inB; cases decide (lo ≤ x) <;> rfl

theorem l08Leaves_eq (l : List Int) (h : l.length ≤ 1073741824) : spec_l08Leaves.f l = some (l.all (fun x => inB x 0 7)) := by
  unfold spec_l08Leaves.f
  have := loopO_scan (step := fun s => spec_l08Leaves.s0 l s) (fun k => (k : Int)) l.length (fun k => inB (l.getD k 0) 0 7) (b := false) (t := ()) (fun k hk => by
    simp only [spec_l08Leaves.s0, l01In_eq, Option.bind_some, Int.toNat_natCast, decide_eq_true (show (k : Int) < (l.length : Int) by omega), cond_true, if_pos (show (0 : Int) ≤ (k : Int) ∧ (k : Int) < (l.length : Int) by omega)]
    rw [w64_id (by omega) (by omega)]
    cases inB (l.getD k 0) 0 7 <;> rfl) (by
    simp only [spec_l08Leaves.s0]
    rw [decide_eq_false (by omega)]; rfl)
  have t2 : loopO (fun s => spec_l08Leaves.s0 l s) 0 = _ := this
  rw [t2, all_range l 0 (fun x => inB x 0 7)]
  cases l.all (fun x => inB x 0 7) <;> rfl

theorem spec_OpOK_eq (o : S_Op) : spec_OpOK.f o = some (opOK o) := by
  unfold spec_OpOK.f opOK
  simp only [l01In_eq, Option.bind_some]
  cases inB o.Kind 1 6 <;> cases inB o.Key 1 9999 <;> cases o.Kind == 1 <;> cases o.Kind == 3 <;> cases o.Kind == 6 <;> rfl

def txnOK (t : S_Txn) : Bool := t.Ops.all opOK && inB t.Ops.length 1 4
theorem l09Txn_eq (t : S_Txn) (h : t.Ops.length ≤ 1073741824) : spec_l09Txn.f t = some (txnOK t) := by
  unfold spec_l09Txn.f
  have := loopO_scan (step := fun s => spec_l09Txn.s0 t s) (fun k => (k : Int)) t.Ops.length (fun k => opOK (t.Ops.getD k z_Op)) (b := false) (t := ()) (fun k hk => by
    simp only [spec_l09Txn.s0, spec_OpOK_eq, Option.bind_some, Int.toNat_natCast, decide_eq_true (show (k : Int) < (t.Ops.length : Int) by omega), cond_true, if_pos (show (0 : Int) ≤ (k : Int) ∧ (k : Int) < (t.Ops.length : Int) by omega)]
    rw [w64_id (by omega) (by omega)]
    cases opOK (t.Ops.getD k z_Op) <;> rfl) (by
    simp only [spec_l09Txn.s0]
    rw [decide_eq_false (by omega)]; rfl)
  rw [show ((0 : Int)) = ((0 : Nat) : Int) from rfl, this, all_range t.Ops z_Op opOK]
  unfold txnOK
  simp only [l01In_eq, Option.bind_some]
  cases t.Ops.all opOK <;> rfl

def batchOK (l : List S_Txn) : Bool := inB l.length 1 2 && l.all txnOK
theorem spec_BatchOK_eq (l : List S_Txn) (h : l.length ≤ 1073741824 ∧ ∀ y, y ∈ l → y.Ops.length ≤ 1073741824) : spec_BatchOK.f l = some (batchOK l) := by
  have hl := h.1
  unfold spec_BatchOK.f batchOK
  by_cases hbig : (l.length : Int) > 4096
  · rw [decide_eq_true hbig]
    have : inB (l.length : Int) 1 2 = false := by
      unfold inB; rw [decide_eq_false (show ¬ (l.length : Int) ≤ 2 by omega), Bool.and_false]
    rw [this]; rfl
  rw [decide_eq_false hbig]
  have := loopO_scan (step := fun s => spec_BatchOK.s0 l s) (fun k => (k : Int)) l.length (fun k => txnOK (l.getD k z_Txn)) (b := false) (t := ()) (fun k hk => by
    simp only [spec_BatchOK.s0, l09Txn_eq _ (h.2 _ (getD_mem hk z_Txn)), Option.bind_some, Int.toNat_natCast, decide_eq_true (show (k : Int) < (l.length : Int) by omega), cond_true, if_pos (show (0 : Int) ≤ (k : Int) ∧ (k : Int) < (l.length : Int) by omega)]
    rw [w64_id (by omega) (by omega)]
    cases txnOK (l.getD k z_Txn) <;> rfl) (by
    simp only [spec_BatchOK.s0]
    rw [decide_eq_false (by omega)]; rfl)
  simp only [l01In_eq, Option.bind_some, cond_false]
  rw [show ((0 : Int)) = ((0 : Nat) : Int) from rfl, this, all_range l z_Txn txnOK]
  cases inB (l.length : Int) 1 2 <;> cases l.all txnOK <;> rfl

theorem l06Ints_eq (l : List Int) (h : l.length ≤ 1048576) : spec_l06Ints.f l = some (strOfNums (textL l)) := by
  unfold spec_l06Ints.f
  have := loopO_run (step := fun s : List Int × Int => spec_l06Ints.s0 l s.1 s.2) (fun k => (textL (l.take k), (k : Int))) l.length (r := .out (textL l)) (fun k hk => by
    have hl := textL_len (l.take k)
    rw [List.length_take] at hl
    simp only [spec_l06Ints.s0, spec_l02Bytes.f, decide_eq_true (show (k : Int) < (l.length : Int) by omega), cond_true, if_pos (show (0 : Int) ≤ (k : Int) ∧ (k : Int) < (l.length : Int) by omega), Int.toNat_natCast]
    rw [if_pos (by simp only [List.length_cons, List.length_nil]; omega), w64_id (by omega) (by omega), take_snoc l k hk 0, textL_snoc, bytes4_eq]
    rfl) (by
    simp only [spec_l06Ints.s0]
    rw [decide_eq_false (by omega), List.take_length]; rfl)
  have t2 : loopO (fun s : List Int × Int => spec_l06Ints.s0 l s.1 s.2) (([] : List Int), 0) = _ := this
  rw [t2]; rfl

theorem l12Fill_eq (l : List Int) (n : Nat) (h : l.length ≤ n) (hn : n ≤ 1048576) : spec_l12Fill.f l (n : Int) = some (strOfNums (textL (l ++ List.replicate (n - l.length) 0))) := by
  unfold spec_l12Fill.f
  have := loopO_run (step := fun s : List Int => spec_l12Fill.s0 (n : Int) s) (fun k => l ++ List.replicate k 0) (n - l.length) (r := .out (l ++ List.replicate (n - l.length) 0)) (fun k hk => by
    simp only [spec_l12Fill.s0, List.length_append, List.length_replicate, List.length_cons, List.length_nil]
    rw [decide_eq_true (by omega), cond_true, if_pos (by omega), List.append_assoc, show ([0] : List Int) = List.replicate 1 0 from rfl, List.replicate_append_replicate]) (by
    simp only [spec_l12Fill.s0, List.length_append, List.length_replicate]
    rw [decide_eq_false (by omega)]; rfl)
  have e0 : l ++ List.replicate 0 0 = l := by simp
  have this : loopO (fun s : List Int => spec_l12Fill.s0 (n : Int) s) (l ++ List.replicate 0 0) = _ := this
  rw [e0] at this
  rw [this]
  simp only [Option.bind_some]
  rw [l06Ints_eq _ (by simp; omega)]
  rfl

theorem l12Entry_eq (l : List S_Txn) (d : List Int) (hl : l.length ≤ 2) (ht : ∀ t ∈ l, t.Ops.length ≤ 4) (hd : d.length = 40) : spec_l12Entry.f l d = some (strOfNums (textL (((d ++ [(l.length : Int)]) ++ txnInts l) ++ List.replicate (68 - ((d ++ [(l.length : Int)]) ++ txnInts l).length) 0))) := by
  unfold spec_l12Entry.f
  have hp : ∀ k, k ≤ l.length → (txnInts (l.take k)).length ≤ 26 := fun k hk => by
    have := txnInts_len (l.take k) (fun t h => ht t (List.mem_of_mem_take h))
    rw [List.length_take] at this; omega
  rw [if_pos (by simp only [List.length_nil]; omega), if_pos (by simp only [List.nil_append, List.length_cons, List.length_nil]; omega)]
  have := loopO_run (step := fun s : List Int × Int => spec_l12Entry.s0 l s.1 s.2) (fun k => ((d ++ [(l.length : Int)]) ++ txnInts (l.take k), (k : Int))) l.length (r := .out ((d ++ [(l.length : Int)]) ++ txnInts l)) (fun k hk => by
    have h1 := hp k (by omega)
    have h4 := ht _ (getD_mem hk z_Txn)
    have hb : ((d ++ [(l.length : Int)]) ++ txnInts (l.take k)).length ≤ 67 := by simp only [List.length_append, List.length_cons, List.length_nil]; omega
    rw [take_snoc l k hk z_Txn, txnInts_snoc, ← List.append_assoc, ← List.append_assoc]
    generalize (d ++ [(l.length : Int)]) ++ txnInts (l.take k) = bs at hb ⊢
    have hin := loopO_run (step := fun s : List Int × Int => spec_l12Entry.s1 l (k : Int) s.1 s.2) (fun j => ((bs ++ [((l.getD k z_Txn).Ops.length : Int)]) ++ opInts ((l.getD k z_Txn).Ops.take j), (j : Int))) (l.getD k z_Txn).Ops.length (r := .out ((bs ++ [((l.getD k z_Txn).Ops.length : Int)]) ++ opInts (l.getD k z_Txn).Ops)) (fun j hj => by
      have h5 := opInts_len ((l.getD k z_Txn).Ops.take j)
      rw [List.length_take] at h5
      simp only [spec_l12Entry.s1, if_pos (show (0 : Int) ≤ (k : Int) ∧ (k : Int) < (l.length : Int) by omega), Int.toNat_natCast, decide_eq_true (show (j : Int) < ((l.getD k z_Txn).Ops.length : Int) by omega), cond_true, if_pos (show (0 : Int) ≤ (j : Int) ∧ (j : Int) < ((l.getD k z_Txn).Ops.length : Int) by omega)]
      rw [if_pos (by simp only [List.length_append, List.length_cons, List.length_nil]; omega), w64_id (by omega) (by omega), take_snoc _ j hj z_Op, opInts_snoc, List.append_assoc]
      rfl) (by
      simp only [spec_l12Entry.s1, if_pos (show (0 : Int) ≤ (k : Int) ∧ (k : Int) < (l.length : Int) by omega), Int.toNat_natCast]
      rw [decide_eq_false (by omega), List.take_length]; rfl)
    have hin : loopO (fun s : List Int × Int => spec_l12Entry.s1 l (k : Int) s.1 s.2) ((bs ++ [((l.getD k z_Txn).Ops.length : Int)]) ++ opInts ((l.getD k z_Txn).Ops.take 0), 0) = _ := hin
    rw [List.take_zero, show opInts [] = [] from rfl, List.append_nil] at hin
    simp only [spec_l12Entry.s0, decide_eq_true (show (k : Int) < (l.length : Int) by omega), cond_true, if_pos (show (0 : Int) ≤ (k : Int) ∧ (k : Int) < (l.length : Int) by omega), Int.toNat_natCast]
    rw [if_pos (by simp only [List.length_cons, List.length_nil]; omega), hin]
    simp only [Option.bind_some]
    rw [w64_id (by omega) (by omega)]
    rfl) (by
    simp only [spec_l12Entry.s0]
    rw [decide_eq_false (by omega), List.take_length]; rfl)
  have t2 : loopO (fun s : List Int × Int => spec_l12Entry.s0 l s.1 s.2) ((d ++ [(l.length : Int)]) ++ txnInts [], 0) = _ := this
  rw [show txnInts [] = [] from rfl, List.append_nil] at t2
  rw [List.nil_append, t2]
  simp only [Option.bind_some]
  have h1 := hp l.length (Nat.le_refl _)
  rw [List.take_length] at h1
  have := l12Fill_eq ((d ++ [(l.length : Int)]) ++ txnInts l) 68 (by simp only [List.length_append, List.length_cons, List.length_nil]; omega) (by decide)
  rw [show ((68 : Nat) : Int) = 68 from rfl] at this
  rw [this]; rfl

theorem id_laws_toOp (x : S_Op) : laws_toOp.f x = some x := by
  unfold laws_toOp.f
  rfl

theorem id_laws_toOpS (x : List S_Op) (h : x.length ≤ 1048576) : laws_toOpS.f x = some x := by
  have hlen : x.length ≤ 1048576 := h
  unfold laws_toOpS.f
  rw [if_pos (by omega)]
  have h0 : ((x.length : Int)).toNat = x.length := by simp
  rw [h0, ← filled_zero x z_Op]
  have := loopO_run (step := fun s => laws_toOpS.s0 x s.1 s.2) (fun k => (filled x z_Op k, (k : Int))) x.length (r := .out x) (fun k hk => by
    have hl := filled_len x z_Op k (by omega)
    simp only [laws_toOpS.s0, id_laws_toOp (x.getD k z_Op), decide_eq_true (show (k : Int) < (x.length : Int) by omega), cond_true, if_pos (show (0 : Int) ≤ (k : Int) ∧ (k : Int) < (x.length : Int) by omega), Option.bind_some, if_pos (show (0 : Int) ≤ (k : Int) ∧ (k : Int) < ((filled x z_Op k).length : Int) by omega), Int.toNat_natCast]
    rw [w64_id (by omega) (by omega), filled_set x z_Op k hk]
    rfl) (by
    simp only [laws_toOpS.s0, filled_all]
    rw [decide_eq_false (by omega)]; rfl)
  have this2 : loopO (fun s => laws_toOpS.s0 x s.1 s.2) (filled x z_Op 0, 0) = some (.out x) := this
  rw [this2]
  rfl

theorem id_laws_toTxn (x : S_Txn) (h : (x.Ops.length ≤ 1048576)) : laws_toTxn.f x = some x := by
  unfold laws_toTxn.f
  simp only [id_laws_toOpS x.Ops h, Option.bind_some]

theorem id_laws_toTxnS (x : List S_Txn) (h : x.length ≤ 1048576 ∧ ∀ z0 : S_Txn, z0 ∈ x → ((z0.Ops.length ≤ 1048576))) : laws_toTxnS.f x = some x := by
  have hlen : x.length ≤ 1048576 := h.1
  unfold laws_toTxnS.f
  rw [if_pos (by omega)]
  have h0 : ((x.length : Int)).toNat = x.length := by simp
  rw [h0, ← filled_zero x z_Txn]
  have := loopO_run (step := fun s => laws_toTxnS.s0 x s.1 s.2) (fun k => (filled x z_Txn k, (k : Int))) x.length (r := .out x) (fun k hk => by
    have hl := filled_len x z_Txn k (by omega)
    simp only [laws_toTxnS.s0, id_laws_toTxn (x.getD k z_Txn) (h.2 _ (getD_mem hk _)), decide_eq_true (show (k : Int) < (x.length : Int) by omega), cond_true, if_pos (show (0 : Int) ≤ (k : Int) ∧ (k : Int) < (x.length : Int) by omega), Option.bind_some, if_pos (show (0 : Int) ≤ (k : Int) ∧ (k : Int) < ((filled x z_Txn k).length : Int) by omega), Int.toNat_natCast]
    rw [w64_id (by omega) (by omega), filled_set x z_Txn k hk]
    rfl) (by
    simp only [laws_toTxnS.s0, filled_all]
    rw [decide_eq_false (by omega)]; rfl)
  have this2 : loopO (fun s => laws_toTxnS.s0 x s.1 s.2) (filled x z_Txn 0, 0) = some (.out x) := this
  rw [this2]
  rfl

theorem id_laws_toIntS (x : List Int) (h : x.length ≤ 1048576) : laws_toIntS.f x = some x := by
  have hlen : x.length ≤ 1048576 := h
  unfold laws_toIntS.f
  rw [if_pos (by omega)]
  have h0 : ((x.length : Int)).toNat = x.length := by simp
  rw [h0, ← filled_zero x 0]
  have := loopO_run (step := fun s => laws_toIntS.s0 x s.1 s.2) (fun k => (filled x 0 k, (k : Int))) x.length (r := .out x) (fun k hk => by
    have hl := filled_len x 0 k (by omega)
    simp only [laws_toIntS.s0, decide_eq_true (show (k : Int) < (x.length : Int) by omega), cond_true, if_pos (show (0 : Int) ≤ (k : Int) ∧ (k : Int) < (x.length : Int) by omega), Option.bind_some, if_pos (show (0 : Int) ≤ (k : Int) ∧ (k : Int) < ((filled x 0 k).length : Int) by omega), Int.toNat_natCast]
    rw [w64_id (by omega) (by omega), filled_set x 0 k hk]
    rfl) (by
    simp only [laws_toIntS.s0, filled_all]
    rw [decide_eq_false (by omega)]; rfl)
  have this2 : loopO (fun s => laws_toIntS.s0 x s.1 s.2) (filled x 0 0, 0) = some (.out x) := this
  rw [this2]
  rfl

theorem within_eq (x lo hi : Int) : impl_within.f x lo hi = some (inB x lo hi) := by
  unfold impl_within.f inB; cases decide (lo ≤ x) <;> rfl

theorem isLeaf_eq (x : Int) : impl_isLeaf.f x = some (inB x 0 7) := by unfold impl_isLeaf.f; rw [within_eq]; rfl

theorem idx_slices_IndexFunc_int_int (l : List Int) (q : Int → Option Bool) (p : Int → Bool) (h : l.length ≤ 1073741824) (hq : ∀ x, x ∈ l → q x = some (p x)) : slices_IndexFunc_int_int.f l q = some (idxOf l 0 p) := by
  unfold slices_IndexFunc_int_int.f idxOf
  have := loopO_find (step := fun s => slices_IndexFunc_int_int.s0 l q s) (fun k => (k : Int)) l.length (fun k => p (l.getD k 0)) (fun k => (k : Int)) (t := ()) (fun k hk => by
    simp only [slices_IndexFunc_int_int.s0, decide_eq_true (show (k : Int) < (l.length : Int) by omega), cond_true, if_pos (show (0 : Int) ≤ (k : Int) ∧ (k : Int) < (l.length : Int) by omega), Int.toNat_natCast, hq _ (getD_mem hk _), Option.bind_some]
    rw [w64_id (by omega) (by omega)]
    cases p (l.getD k 0) <;> rfl) (by
    simp only [slices_IndexFunc_int_int.s0]
    rw [decide_eq_false (by omega)]; rfl)
  rw [show ((0 : Int)) = ((0 : Nat) : Int) from rfl, this]
  cases (List.range l.length).find? (fun k => p (l.getD k 0)) <;> rfl

theorem any_slices_ContainsFunc_int_int (l : List Int) (q : Int → Option Bool) (p : Int → Bool) (h : l.length ≤ 1073741824) (hq : ∀ x, x ∈ l → q x = some (p x)) : slices_ContainsFunc_int_int.f l q = some (l.any p) := by
  unfold slices_ContainsFunc_int_int.f
  rw [idx_slices_IndexFunc_int_int l q p h hq, ← idxOf_any l 0 p]
  rfl

theorem all_impl_areAll_int (l : List Int) (q : Int → Option Bool) (p : Int → Bool) (h : l.length ≤ 1073741824) (hq : ∀ x, x ∈ l → q x = some (p x)) : impl_areAll_int.f l q = some (l.all p) := by
  unfold impl_areAll_int.f
  rw [any_slices_ContainsFunc_int_int l _ (fun x => !p x) h (fun x hx => by unfold impl_areAll_int__c1.f; rw [hq x hx]; rfl)]
  simp only [Option.bind_some, List.any_eq_not_all_not, Bool.not_not]

def drawsC (l : List Int) (n : Int) : Int := bif !((l.length : Int) == n) then 13 else bif l.all (fun x => inB x 0 7) then 0 else 4
theorem drawsCode_eq (l : List Int) (n : Int) (h : l.length ≤ 1073741824) : impl_drawsCode.f l n = some (drawsC l n) := by
  unfold impl_drawsCode.f drawsC
  rw [all_impl_areAll_int l _ (fun x => inB x 0 7) h (fun x _ => isLeaf_eq x)]
  simp only [bne, Option.bind_some]
  cases ((l.length : Int) == n) <;> cases l.all (fun x => inB x 0 7) <;> rfl
theorem l11Draws_eq (l : List Int) (n : Int) (h : l.length ≤ 1073741824) (hn : n ≤ 4096) : ∃ c, spec_l11Draws.f l n = some c ∧ ((c == 0) = (drawsC l n == 0)) := by
  unfold spec_l11Draws.f drawsC
  simp only [l08Leaves_eq l h, bne, Option.bind_some]
  by_cases hb : (l.length : Int) > 4096
  · rw [decide_eq_true hb]
    have : ((l.length : Int) == n) = false := by simp only [beq_eq_false_iff_ne]; omega
    rw [this]; exact ⟨2, rfl, rfl⟩
  · rw [decide_eq_false hb]
    cases ((l.length : Int) == n)
    · exact ⟨13, rfl, rfl⟩
    · cases l.all (fun x => inB x 0 7)
      · exact ⟨4, rfl, rfl⟩
      · exact ⟨0, rfl, rfl⟩

theorem idx_slices_IndexFunc_impl_Txn_impl_Txn (l : List S_Txn) (q : S_Txn → Option Bool) (p : S_Txn → Bool) (h : l.length ≤ 1073741824) (hq : ∀ x, x ∈ l → q x = some (p x)) : slices_IndexFunc_impl_Txn_impl_Txn.f l q = some (idxOf l z_Txn p) := by
  unfold slices_IndexFunc_impl_Txn_impl_Txn.f idxOf
  have := loopO_find (step := fun s => slices_IndexFunc_impl_Txn_impl_Txn.s0 l q s) (fun k => (k : Int)) l.length (fun k => p (l.getD k z_Txn)) (fun k => (k : Int)) (t := ()) (fun k hk => by
    simp only [slices_IndexFunc_impl_Txn_impl_Txn.s0, decide_eq_true (show (k : Int) < (l.length : Int) by omega), cond_true, if_pos (show (0 : Int) ≤ (k : Int) ∧ (k : Int) < (l.length : Int) by omega), Int.toNat_natCast, hq _ (getD_mem hk _), Option.bind_some]
    rw [w64_id (by omega) (by omega)]
    cases p (l.getD k z_Txn) <;> rfl) (by
    simp only [slices_IndexFunc_impl_Txn_impl_Txn.s0]
    rw [decide_eq_false (by omega)]; rfl)
  rw [show ((0 : Int)) = ((0 : Nat) : Int) from rfl, this]
  cases (List.range l.length).find? (fun k => p (l.getD k z_Txn)) <;> rfl

theorem any_slices_ContainsFunc_impl_Txn_impl_Txn (l : List S_Txn) (q : S_Txn → Option Bool) (p : S_Txn → Bool) (h : l.length ≤ 1073741824) (hq : ∀ x, x ∈ l → q x = some (p x)) : slices_ContainsFunc_impl_Txn_impl_Txn.f l q = some (l.any p) := by
  unfold slices_ContainsFunc_impl_Txn_impl_Txn.f
  rw [idx_slices_IndexFunc_impl_Txn_impl_Txn l q p h hq, ← idxOf_any l z_Txn p]
  rfl

theorem all_impl_areAll_impl_Txn (l : List S_Txn) (q : S_Txn → Option Bool) (p : S_Txn → Bool) (h : l.length ≤ 1073741824) (hq : ∀ x, x ∈ l → q x = some (p x)) : impl_areAll_impl_Txn.f l q = some (l.all p) := by
  unfold impl_areAll_impl_Txn.f
  rw [any_slices_ContainsFunc_impl_Txn_impl_Txn l _ (fun x => !p x) h (fun x hx => by unfold impl_areAll_impl_Txn__c1.f; rw [hq x hx]; rfl)]
  simp only [Option.bind_some, List.any_eq_not_all_not, Bool.not_not]

theorem idx_slices_IndexFunc_impl_Op_impl_Op (l : List S_Op) (q : S_Op → Option Bool) (p : S_Op → Bool) (h : l.length ≤ 1073741824) (hq : ∀ x, x ∈ l → q x = some (p x)) : slices_IndexFunc_impl_Op_impl_Op.f l q = some (idxOf l z_Op p) := by
  unfold slices_IndexFunc_impl_Op_impl_Op.f idxOf
  have := loopO_find (step := fun s => slices_IndexFunc_impl_Op_impl_Op.s0 l q s) (fun k => (k : Int)) l.length (fun k => p (l.getD k z_Op)) (fun k => (k : Int)) (t := ()) (fun k hk => by
    simp only [slices_IndexFunc_impl_Op_impl_Op.s0, decide_eq_true (show (k : Int) < (l.length : Int) by omega), cond_true, if_pos (show (0 : Int) ≤ (k : Int) ∧ (k : Int) < (l.length : Int) by omega), Int.toNat_natCast, hq _ (getD_mem hk _), Option.bind_some]
    rw [w64_id (by omega) (by omega)]
    cases p (l.getD k z_Op) <;> rfl) (by
    simp only [slices_IndexFunc_impl_Op_impl_Op.s0]
    rw [decide_eq_false (by omega)]; rfl)
  rw [show ((0 : Int)) = ((0 : Nat) : Int) from rfl, this]
  cases (List.range l.length).find? (fun k => p (l.getD k z_Op)) <;> rfl

theorem any_slices_ContainsFunc_impl_Op_impl_Op (l : List S_Op) (q : S_Op → Option Bool) (p : S_Op → Bool) (h : l.length ≤ 1073741824) (hq : ∀ x, x ∈ l → q x = some (p x)) : slices_ContainsFunc_impl_Op_impl_Op.f l q = some (l.any p) := by
  unfold slices_ContainsFunc_impl_Op_impl_Op.f
  rw [idx_slices_IndexFunc_impl_Op_impl_Op l q p h hq, ← idxOf_any l z_Op p]
  rfl

theorem all_impl_areAll_impl_Op (l : List S_Op) (q : S_Op → Option Bool) (p : S_Op → Bool) (h : l.length ≤ 1073741824) (hq : ∀ x, x ∈ l → q x = some (p x)) : impl_areAll_impl_Op.f l q = some (l.all p) := by
  unfold impl_areAll_impl_Op.f
  rw [any_slices_ContainsFunc_impl_Op_impl_Op l _ (fun x => !p x) h (fun x hx => by unfold impl_areAll_impl_Op__c1.f; rw [hq x hx]; rfl)]
  simp only [Option.bind_some, List.any_eq_not_all_not, Bool.not_not]

theorem isKey_eq (x : Int) : impl_isKey.f x = some (inB x 1 9999) := by unfold impl_isKey.f; rw [within_eq]; rfl

theorem isValue_eq (x : Int) : impl_isValue.f x = some (inB x 0 999999) := by unfold impl_isValue.f; rw [within_eq]; rfl

theorem impl_OpOK_eq (o : S_Op) : impl_OpOK.f o = some (opOK o) := by
  unfold impl_OpOK.f impl_isBare.f opOK
  simp only [within_eq, isKey_eq, isValue_eq, Option.bind_some]
  cases inB o.Kind 1 6 <;> cases inB o.Key 1 9999 <;> cases o.Kind == 1 <;> cases o.Kind == 3 <;> cases o.Kind == 6 <;> rfl

theorem isTxn_eq (t : S_Txn) (h : t.Ops.length ≤ 1073741824) : impl_isTxn.f t = some (txnOK t) := by
  unfold impl_isTxn.f txnOK
  rw [all_impl_areAll_impl_Op t.Ops _ opOK h (fun x _ => impl_OpOK_eq x)]
  simp only [within_eq, Option.bind_some]
  cases inB (t.Ops.length : Int) 1 4 <;> cases t.Ops.all opOK <;> rfl

theorem impl_BatchOK_eq (l : List S_Txn) (h : l.length ≤ 1073741824 ∧ ∀ y, y ∈ l → y.Ops.length ≤ 1073741824) : impl_BatchOK.f l = some (batchOK l) := by
  unfold impl_BatchOK.f batchOK
  rw [all_impl_areAll_impl_Txn l _ txnOK h.1 (fun x hx => isTxn_eq x (h.2 x hx))]
  simp only [within_eq, Option.bind_some]
  cases inB (l.length : Int) 1 2 <;> cases l.all txnOK <;> rfl

theorem little_eq (x : Int) : impl_little.f x 4 = some (strOfNums (bytes4 x)) := by
  unfold impl_little.f
  have := loopO_run (step := fun s : List Int × Int => impl_little.s0 x 4 s.1 s.2) (fun k => ((List.range k).map (by4 x), (k : Int))) 4 (r := .out (bytes4 x)) (fun k hk => by
    simp only [impl_little.s0, decide_eq_true (show (k : Int) < 4 by omega), cond_true]
    rw [w64_id (x := 8 * (k : Int)) (by omega) (by omega), w64_id (x := (k : Int) + 1) (by omega) (by omega), if_pos (by omega), if_pos (by simp; omega), show min (8 * (k : Int)).toNat 64 = 8 * k by omega, List.range_succ, List.map_append]
    rfl) rfl
  have t2 : loopO (fun s : List Int × Int => impl_little.s0 x 4 s.1 s.2) (([] : List Int), 0) = _ := this
  rw [t2]; rfl

theorem intsText_eq (l : List Int) (h : l.length ≤ 1048576) : impl_intsText.f l = some (strOfNums (textL l)) := by
  unfold impl_intsText.f
  have := loopO_run (step := fun s : Int × ByteArray => impl_intsText.s0 l s.1 s.2) (fun k => ((k : Int), strOfNums (textL (l.take k)))) l.length (r := .out (strOfNums (textL l))) (fun k hk => by
    simp only [impl_intsText.s0, decide_eq_true (show (k : Int) < (l.length : Int) by omega), cond_true, if_pos (show (0 : Int) ≤ (k : Int) ∧ (k : Int) < (l.length : Int) by omega), Int.toNat_natCast, little_eq, Option.bind_some]
    rw [if_pos (by rw [strOfNums_size, strOfNums_size, textL_len, bytes4_len, List.length_take]; omega), w64_id (by omega) (by omega), take_snoc l k hk 0, textL_snoc, str_append]
    rfl) (by
    simp only [impl_intsText.s0]
    rw [decide_eq_false (by omega), List.take_length]; rfl)
  have t2 : loopO (fun s : Int × ByteArray => impl_intsText.s0 l s.1 s.2) (0, (⟨#[]⟩ : ByteArray)) = _ := this
  rw [t2]; rfl

theorem textOf_eq (l : List Int) (n : Nat) (h : l.length ≤ n) (hn : n ≤ 1048576) : impl_textOf.f l (n : Int) = some (strOfNums (textL (l ++ List.replicate (n - l.length) 0))) := by
  unfold impl_textOf.f
  rw [w64_id (by omega) (by omega), if_pos (by omega), show ((n : Int) - (l.length : Int)).toNat = n - l.length by omega, intsText_eq _ (by simp; omega)]
  rfl

theorem entryText_eq (l : List S_Txn) (d : List Int) (hl : l.length ≤ 2) (ht : ∀ t ∈ l, t.Ops.length ≤ 4) (hd : d.length = 40) : impl_entryText.f l d = some (strOfNums (textL (((d ++ [(l.length : Int)]) ++ txnInts l) ++ List.replicate (68 - ((d ++ [(l.length : Int)]) ++ txnInts l).length) 0))) := by
  unfold impl_entryText.f
  have hp : ∀ k, k ≤ l.length → (txnInts (l.take k)).length ≤ 26 := fun k hk => by
    have := txnInts_len (l.take k) (fun t h => ht t (List.mem_of_mem_take h))
    rw [List.length_take] at this; omega
  rw [show slices_Clone_int_int.f d = some d by unfold slices_Clone_int_int.f; rw [if_pos (by omega)]]
  simp only [Option.bind_some]
  rw [if_pos (by simp only [List.length_cons, List.length_nil]; omega)]
  have := loopO_run (step := fun s : List Int × Int => impl_entryText.s0 l s.1 s.2) (fun k => ((d ++ [(l.length : Int)]) ++ txnInts (l.take k), (k : Int))) l.length (r := .out ((d ++ [(l.length : Int)]) ++ txnInts l)) (fun k hk => by
    have h1 := hp k (by omega)
    have h4 := ht _ (getD_mem hk z_Txn)
    have hb : ((d ++ [(l.length : Int)]) ++ txnInts (l.take k)).length ≤ 67 := by simp only [List.length_append, List.length_cons, List.length_nil]; omega
    rw [take_snoc l k hk z_Txn, txnInts_snoc, ← List.append_assoc, ← List.append_assoc]
    generalize (d ++ [(l.length : Int)]) ++ txnInts (l.take k) = bs at hb ⊢
    have hin := loopO_run (step := fun s : List Int × Int => impl_entryText.s1 l (k : Int) s.1 s.2) (fun j => ((bs ++ [((l.getD k z_Txn).Ops.length : Int)]) ++ opInts ((l.getD k z_Txn).Ops.take j), (j : Int))) (l.getD k z_Txn).Ops.length (r := .out ((bs ++ [((l.getD k z_Txn).Ops.length : Int)]) ++ opInts (l.getD k z_Txn).Ops)) (fun j hj => by
      have h5 := opInts_len ((l.getD k z_Txn).Ops.take j)
      rw [List.length_take] at h5
      simp only [impl_entryText.s1, Int.toNat_natCast, decide_eq_true (show (j : Int) < ((l.getD k z_Txn).Ops.length : Int) by omega), cond_true, if_pos (show (0 : Int) ≤ (j : Int) ∧ (j : Int) < ((l.getD k z_Txn).Ops.length : Int) by omega)]
      rw [if_pos (by simp only [List.length_append, List.length_cons, List.length_nil]; omega), w64_id (by omega) (by omega), take_snoc _ j hj z_Op, opInts_snoc, List.append_assoc]
      rfl) (by
      simp only [impl_entryText.s1, Int.toNat_natCast]
      rw [decide_eq_false (by omega), List.take_length]; rfl)
    have hin : loopO (fun s : List Int × Int => impl_entryText.s1 l (k : Int) s.1 s.2) ((bs ++ [((l.getD k z_Txn).Ops.length : Int)]) ++ opInts ((l.getD k z_Txn).Ops.take 0), 0) = _ := hin
    rw [List.take_zero, show opInts [] = [] from rfl, List.append_nil] at hin
    simp only [impl_entryText.s0, decide_eq_true (show (k : Int) < (l.length : Int) by omega), cond_true, if_pos (show (0 : Int) ≤ (k : Int) ∧ (k : Int) < (l.length : Int) by omega), Int.toNat_natCast]
    rw [if_pos (by simp only [List.length_cons, List.length_nil]; omega), hin]
    simp only [Option.bind_some]
    rw [w64_id (by omega) (by omega)]
    rfl) (by
    simp only [impl_entryText.s0]
    rw [decide_eq_false (by omega), List.take_length]; rfl)
  have t2 : loopO (fun s : List Int × Int => impl_entryText.s0 l s.1 s.2) ((d ++ [(l.length : Int)]) ++ txnInts [], 0) = _ := this
  rw [show txnInts [] = [] from rfl, List.append_nil] at t2
  rw [t2]
  simp only [Option.bind_some]
  have h1 := hp l.length (Nat.le_refl _)
  rw [List.take_length] at h1
  have := textOf_eq ((d ++ [(l.length : Int)]) ++ txnInts l) 68 (by simp only [List.length_append, List.length_cons, List.length_nil]; omega) (by decide)
  rw [show ((68 : Nat) : Int) = 68 from rfl] at this
  rw [this]; rfl

theorem refl_laws_eqOp (x : S_Op) : laws_eqOp.f x x = some true := by
  unfold laws_eqOp.f
  simp only [bne_self_eq_false, beq_self_eq_true, Bool.not_true, cond_false, Option.bind_some]

theorem reflF_laws_eqOp (x : S_Op) : laws_eqOp.f x x = some true := by
  unfold laws_eqOp.f
  simp only [bne_self_eq_false, beq_self_eq_true, bs_self, Bool.not_true, cond_false, Option.bind_some]

theorem refl_laws_eqOpS (x : List S_Op) (h : x.length ≤ 1048576) : laws_eqOpS.f x x = some true := by
  have hlen : x.length ≤ 1048576 := h
  unfold laws_eqOpS.f
  rw [show ((x.length : Int) != (x.length : Int)) = false from by simp]
  have := loopO_run (step := fun s => laws_eqOpS.s0 x x s) (fun k => (k : Int)) x.length (r := .out ()) (fun k hk => by
    simp only [laws_eqOpS.s0, decide_eq_true (show (k : Int) < (x.length : Int) by omega), cond_true, if_pos (show (0 : Int) ≤ (k : Int) ∧ (k : Int) < (x.length : Int) by omega), Int.toNat_natCast, refl_laws_eqOp (x.getD k z_Op), bne_self_eq_false, beq_self_eq_true, Bool.not_true, cond_false, Option.bind_some]
    rw [w64_id (by omega) (by omega)]
    rfl) (by
    simp only [laws_eqOpS.s0]
    rw [decide_eq_false (by omega)]; rfl)
  rw [show ((0 : Int)) = ((0 : Nat) : Int) from rfl, this]
  rfl

theorem reflL_laws_eqOpS (x : List S_Op) (h : x.length ≤ 1048576) : laws_eqOpS.f x x = some true := by
  have hlen : x.length ≤ 1048576 := h
  unfold laws_eqOpS.f
  rw [show ((x.length : Int) != (x.length : Int)) = false from by simp]
  have := loopO_run (step := fun s => laws_eqOpS.s0 x x s) (fun k => (k : Int)) x.length (r := .out ()) (fun k hk => by
    simp only [laws_eqOpS.s0, decide_eq_true (show (k : Int) < (x.length : Int) by omega), cond_true, if_pos (show (0 : Int) ≤ (k : Int) ∧ (k : Int) < (x.length : Int) by omega), Int.toNat_natCast, reflF_laws_eqOp (x.getD k z_Op), bne_self_eq_false, beq_self_eq_true, bs_self, Bool.not_true, cond_false, Option.bind_some]
    rw [w64_id (by omega) (by omega)]
    rfl) (by
    simp only [laws_eqOpS.s0]
    rw [decide_eq_false (by omega)]; rfl)
  rw [show ((0 : Int)) = ((0 : Nat) : Int) from rfl, this]
  rfl

theorem refl_laws_eqTxn (x : S_Txn) (h : (x.Ops.length ≤ 1048576)) : laws_eqTxn.f x x = some true := by
  unfold laws_eqTxn.f
  simp only [refl_laws_eqOpS x.Ops h, bne_self_eq_false, beq_self_eq_true, Bool.not_true, cond_false, Option.bind_some]

theorem reflL_laws_eqTxn (x : S_Txn) (h : (x.Ops.length ≤ 1048576)) : laws_eqTxn.f x x = some true := by
  unfold laws_eqTxn.f
  simp only [reflL_laws_eqOpS x.Ops h, bne_self_eq_false, beq_self_eq_true, bs_self, Bool.not_true, cond_false, Option.bind_some]

theorem refl_laws_eqTxnS (x : List S_Txn) (h : x.length ≤ 1048576 ∧ ∀ z0 : S_Txn, z0 ∈ x → ((z0.Ops.length ≤ 1048576))) : laws_eqTxnS.f x x = some true := by
  have hlen : x.length ≤ 1048576 := h.1
  unfold laws_eqTxnS.f
  rw [show ((x.length : Int) != (x.length : Int)) = false from by simp]
  have := loopO_run (step := fun s => laws_eqTxnS.s0 x x s) (fun k => (k : Int)) x.length (r := .out ()) (fun k hk => by
    simp only [laws_eqTxnS.s0, decide_eq_true (show (k : Int) < (x.length : Int) by omega), cond_true, if_pos (show (0 : Int) ≤ (k : Int) ∧ (k : Int) < (x.length : Int) by omega), Int.toNat_natCast, refl_laws_eqTxn (x.getD k z_Txn) (h.2 _ (getD_mem hk _)), bne_self_eq_false, beq_self_eq_true, Bool.not_true, cond_false, Option.bind_some]
    rw [w64_id (by omega) (by omega)]
    rfl) (by
    simp only [laws_eqTxnS.s0]
    rw [decide_eq_false (by omega)]; rfl)
  rw [show ((0 : Int)) = ((0 : Nat) : Int) from rfl, this]
  rfl

theorem reflL_laws_eqTxnS (x : List S_Txn) (h : x.length ≤ 1048576 ∧ ∀ z0 : S_Txn, z0 ∈ x → ((z0.Ops.length ≤ 1048576))) : laws_eqTxnS.f x x = some true := by
  have hlen : x.length ≤ 1048576 := h.1
  unfold laws_eqTxnS.f
  rw [show ((x.length : Int) != (x.length : Int)) = false from by simp]
  have := loopO_run (step := fun s => laws_eqTxnS.s0 x x s) (fun k => (k : Int)) x.length (r := .out ()) (fun k hk => by
    simp only [laws_eqTxnS.s0, decide_eq_true (show (k : Int) < (x.length : Int) by omega), cond_true, if_pos (show (0 : Int) ≤ (k : Int) ∧ (k : Int) < (x.length : Int) by omega), Int.toNat_natCast, reflL_laws_eqTxn (x.getD k z_Txn) (h.2 _ (getD_mem hk _)), bne_self_eq_false, beq_self_eq_true, bs_self, Bool.not_true, cond_false, Option.bind_some]
    rw [w64_id (by omega) (by omega)]
    rfl) (by
    simp only [laws_eqTxnS.s0]
    rw [decide_eq_false (by omega)]; rfl)
  rw [show ((0 : Int)) = ((0 : Nat) : Int) from rfl, this]
  rfl

theorem refl_laws_eqIntS (x : List Int) (h : x.length ≤ 1048576) : laws_eqIntS.f x x = some true := by
  have hlen : x.length ≤ 1048576 := h
  unfold laws_eqIntS.f
  rw [show ((x.length : Int) != (x.length : Int)) = false from by simp]
  have := loopO_run (step := fun s => laws_eqIntS.s0 x x s) (fun k => (k : Int)) x.length (r := .out ()) (fun k hk => by
    simp only [laws_eqIntS.s0, decide_eq_true (show (k : Int) < (x.length : Int) by omega), cond_true, if_pos (show (0 : Int) ≤ (k : Int) ∧ (k : Int) < (x.length : Int) by omega), Int.toNat_natCast, bne_self_eq_false, beq_self_eq_true, Bool.not_true, cond_false, Option.bind_some]
    rw [w64_id (by omega) (by omega)]
    rfl) (by
    simp only [laws_eqIntS.s0]
    rw [decide_eq_false (by omega)]; rfl)
  rw [show ((0 : Int)) = ((0 : Nat) : Int) from rfl, this]
  rfl

theorem reflL_laws_eqIntS (x : List Int) (h : x.length ≤ 1048576) : laws_eqIntS.f x x = some true := by
  have hlen : x.length ≤ 1048576 := h
  unfold laws_eqIntS.f
  rw [show ((x.length : Int) != (x.length : Int)) = false from by simp]
  have := loopO_run (step := fun s => laws_eqIntS.s0 x x s) (fun k => (k : Int)) x.length (r := .out ()) (fun k hk => by
    simp only [laws_eqIntS.s0, decide_eq_true (show (k : Int) < (x.length : Int) by omega), cond_true, if_pos (show (0 : Int) ≤ (k : Int) ∧ (k : Int) < (x.length : Int) by omega), Int.toNat_natCast, bne_self_eq_false, beq_self_eq_true, bs_self, Bool.not_true, cond_false, Option.bind_some]
    rw [w64_id (by omega) (by omega)]
    rfl) (by
    simp only [laws_eqIntS.s0]
    rw [decide_eq_false (by omega)]; rfl)
  rw [show ((0 : Int)) = ((0 : Nat) : Int) from rfl, this]
  rfl

end Go.Proofs.Ytmgfkpfacdlfbaa
