/- What the models of these functions come to. -/
import Derived.Test.YtmafglodgnbajaaPXStoreOK
import Derived.Test.YtmafglodgnbajaaGXActOKn1
namespace Go.Proofs.Ytmafglodgnbajaa
open Go Go.Z Go.Proofs Go.MuLone Go.ChangeShapes Go.WideShapes Go.ChangeAt Go.RowKit
set_option linter.unusedVariables false
set_option linter.unusedSimpArgs false
theorem ok_laws_szOpS (x : List S_Op) (n : Int) (h0 : 0 ≤ n) (h1 : n ≤ 1048576) (g : (x.length ≤ maxLen ∧ ∀ y : S_Op, y ∈ x → (((Lit.int .i64 y.Kind).wf = true) ∧ ((Lit.int .i64 y.Key).wf = true) ∧ ((Lit.int .i64 y.Value).wf = true)))) : ∃ m, laws_szOpS.f x n = some m ∧ (m < 0 ∨ (0 ≤ m ∧ m ≤ n ∧ (x.length ≤ 1048576))) := by
  have hM : maxLen = 9223372036854775807 := rfl
  have g1 := g.1
  unfold laws_szOpS.f
  rw [w64_id (x := n - (x.length : Int)) (by omega) (by omega)]
  by_cases h : n - (x.length : Int) < 0
  · rw [decide_eq_true h]; exact ⟨_, rfl, .inl (by decide)⟩
  rw [decide_eq_false h]; simp only [cond_false]
  exact ⟨_, rfl, .inr ⟨by omega, by omega, by omega⟩⟩

theorem ok_laws_szTxn (x : S_Txn) (n : Int) (h0 : 0 ≤ n) (h1 : n ≤ 1048576) (g : ((x.Ops.length ≤ maxLen ∧ ∀ y : S_Op, y ∈ x.Ops → (((Lit.int .i64 y.Kind).wf = true) ∧ ((Lit.int .i64 y.Key).wf = true) ∧ ((Lit.int .i64 y.Value).wf = true))))) : ∃ m, laws_szTxn.f x n = some m ∧ (m < 0 ∨ (0 ≤ m ∧ m ≤ n ∧ ((x.Ops.length ≤ 1048576)))) := by
  have hM : maxLen = 9223372036854775807 := rfl
  unfold laws_szTxn.f
  obtain ⟨m1, e1, c1⟩ := ok_laws_szOpS x.Ops n (by omega) (by omega) g
  rw [e1]; simp only [Option.bind_some]
  rcases c1 with c1 | ⟨p1, q1, r1⟩
  · rw [decide_eq_true c1]; exact ⟨_, rfl, .inl (by decide)⟩
  rw [decide_eq_false (show ¬ m1 < 0 by omega)]; simp only [cond_false]
  exact ⟨_, rfl, .inr ⟨by omega, by omega, r1⟩⟩

theorem ok_laws_szTxnS (x : List S_Txn) (n : Int) (h0 : 0 ≤ n) (h1 : n ≤ 1048576) (g : (x.length ≤ maxLen ∧ ∀ y : S_Txn, y ∈ x → ((y.Ops.length ≤ maxLen ∧ ∀ y1 : S_Op, y1 ∈ y.Ops → (((Lit.int .i64 y1.Kind).wf = true) ∧ ((Lit.int .i64 y1.Key).wf = true) ∧ ((Lit.int .i64 y1.Value).wf = true)))))) : ∃ m, laws_szTxnS.f x n = some m ∧ (m < 0 ∨ (0 ≤ m ∧ m ≤ n ∧ (x.length ≤ 1048576 ∧ ∀ z0 : S_Txn, z0 ∈ x → ((z0.Ops.length ≤ 1048576))))) := by
  have hM : maxLen = 9223372036854775807 := rfl
  have g1 := g.1
  unfold laws_szTxnS.f
  rw [w64_id (x := n - (x.length : Int)) (by omega) (by omega)]
  by_cases h : n - (x.length : Int) < 0
  · rw [decide_eq_true h]; exact ⟨_, rfl, .inl (by decide)⟩
  rw [decide_eq_false h]; simp only [cond_false]
  obtain ⟨r, e1, e2⟩ := loopO_wf (step := fun s : Int × Int => laws_szTxnS.s0 x s.1 s.2) (fun s => ∃ k : Nat, ∃ m : Int, s = (m, (k : Int)) ∧ k ≤ x.length ∧ 0 ≤ m ∧ m ≤ n ∧ ∀ j, j < k → ((((x.getD j z_Txn).Ops).length ≤ 1048576)))
    (fun r : Ex Int Int => match r with | .out m => 0 ≤ m ∧ m ≤ n ∧ ∀ j, j < x.length → ((((x.getD j z_Txn).Ops).length ≤ 1048576)) | .ret m => m < 0) (fun s => x.length - s.2.toNat) (fun s hI => by
      obtain ⟨k, m, rfl, hk, m0, m1, hj⟩ := hI
      by_cases hlt : k < x.length
      · have gk := g.2 (x.getD k z_Txn) (getD_mem hlt _)
        simp only [laws_szTxnS.s0, decide_eq_true (show (k : Int) < (x.length : Int) by omega), cond_true, if_pos (show (0 : Int) ≤ (k : Int) ∧ (k : Int) < (x.length : Int) by omega), Int.toNat_natCast]
        obtain ⟨m2, e3, h3⟩ := ok_laws_szTxn (x.getD k z_Txn) m m0 (by omega) gk
        rw [e3]; simp only [Option.bind_some]
        rcases h3 with h3 | ⟨h3, h4, h5⟩
        · rw [decide_eq_true h3]; exact .inr ⟨.ret (-1), rfl, (by decide : (-1 : Int) < 0)⟩
        · rw [decide_eq_false (show ¬ m2 < 0 by omega), w64_id (x := (k : Int) + 1) (by omega) (by omega)]
          refine .inl ⟨(m2, ((k + 1 : Nat) : Int)), rfl, ⟨k + 1, _, rfl, by omega, h3, by omega, fun j hj2 => ?_⟩, by simp only [Int.toNat_natCast]; omega⟩
          rcases Nat.lt_or_ge j k with h | h
          · exact hj j h
          · have : j = k := by omega
            rw [this]; exact h5
      · refine .inr ⟨.out m, ?_, m0, m1, fun j hj2 => hj j (by omega)⟩
        simp only [laws_szTxnS.s0]; rw [decide_eq_false (by omega)]; rfl) _ (n - (x.length : Int), 0) (Nat.le_refl _) ⟨0, _, rfl, Nat.zero_le _, by omega, by omega, fun j hj => by omega⟩
  rw [e1]
  cases r with
  | out m => exact ⟨m, rfl, .inr ⟨e2.1, e2.2.1, by omega, all_get e2.2.2⟩⟩
  | ret m => exact ⟨m, rfl, .inl e2⟩

theorem ok_laws_szIntS (x : List Int) (n : Int) (h0 : 0 ≤ n) (h1 : n ≤ 1048576) (g : (x.length ≤ maxLen ∧ ∀ y : Int, y ∈ x → ((Lit.int .i64 y).wf = true))) : ∃ m, laws_szIntS.f x n = some m ∧ (m < 0 ∨ (0 ≤ m ∧ m ≤ n ∧ (x.length ≤ 1048576))) := by
  have hM : maxLen = 9223372036854775807 := rfl
  have g1 := g.1
  unfold laws_szIntS.f
  rw [w64_id (x := n - (x.length : Int)) (by omega) (by omega)]
  by_cases h : n - (x.length : Int) < 0
  · rw [decide_eq_true h]; exact ⟨_, rfl, .inl (by decide)⟩
  rw [decide_eq_false h]; simp only [cond_false]
  exact ⟨_, rfl, .inr ⟨by omega, by omega, by omega⟩⟩

theorem ok_laws_szAct (x : S_Act) (n : Int) (h0 : 0 ≤ n) (h1 : n ≤ 1048576) (g : (((Lit.int .i64 x.Kind).wf = true) ∧ ((Lit.int .i64 x.Phase).wf = true) ∧ ((Lit.int .i64 x.At).wf = true) ∧ ((Lit.int .i64 x.Place).wf = true) ∧ ((Lit.int .i64 x.By).wf = true) ∧ (x.Batch.length ≤ maxLen ∧ ∀ y : S_Txn, y ∈ x.Batch → ((y.Ops.length ≤ maxLen ∧ ∀ y1 : S_Op, y1 ∈ y.Ops → (((Lit.int .i64 y1.Kind).wf = true) ∧ ((Lit.int .i64 y1.Key).wf = true) ∧ ((Lit.int .i64 y1.Value).wf = true))))) ∧ (x.Draws.length ≤ maxLen ∧ ∀ y : Int, y ∈ x.Draws → ((Lit.int .i64 y).wf = true)) ∧ (x.Fates.length ≤ maxLen ∧ ∀ y : Int, y ∈ x.Fates → ((Lit.int .i64 y).wf = true)))) : ∃ m, laws_szAct.f x n = some m ∧ (m < 0 ∨ (0 ≤ m ∧ m ≤ n ∧ ((x.Batch.length ≤ 1048576 ∧ ∀ z0 : S_Txn, z0 ∈ x.Batch → ((z0.Ops.length ≤ 1048576))) ∧ (x.Draws.length ≤ 1048576) ∧ (x.Fates.length ≤ 1048576)))) := by
  have hM : maxLen = 9223372036854775807 := rfl
  unfold laws_szAct.f
  obtain ⟨m1, e1, c1⟩ := ok_laws_szTxnS x.Batch n (by omega) (by omega) g.2.2.2.2.2.1
  rw [e1]; simp only [Option.bind_some]
  rcases c1 with c1 | ⟨p1, q1, r1⟩
  · rw [decide_eq_true c1]; exact ⟨_, rfl, .inl (by decide)⟩
  rw [decide_eq_false (show ¬ m1 < 0 by omega)]; simp only [cond_false]
  obtain ⟨m2, e2, c2⟩ := ok_laws_szIntS x.Draws m1 (by omega) (by omega) g.2.2.2.2.2.2.1
  rw [e2]; simp only [Option.bind_some]
  rcases c2 with c2 | ⟨p2, q2, r2⟩
  · rw [decide_eq_true c2]; exact ⟨_, rfl, .inl (by decide)⟩
  rw [decide_eq_false (show ¬ m2 < 0 by omega)]; simp only [cond_false]
  obtain ⟨m3, e3, c3⟩ := ok_laws_szIntS x.Fates m2 (by omega) (by omega) g.2.2.2.2.2.2.2
  rw [e3]; simp only [Option.bind_some]
  rcases c3 with c3 | ⟨p3, q3, r3⟩
  · rw [decide_eq_true c3]; exact ⟨_, rfl, .inl (by decide)⟩
  rw [decide_eq_false (show ¬ m3 < 0 by omega)]; simp only [cond_false]
  exact ⟨_, rfl, .inr ⟨by omega, by omega, r1, r2, r3⟩⟩

def opOK (o : S_Op) : Bool :=
  inB o.Kind 1 6 && inB o.Key 1 9999 && (bif o.Kind == 1 || o.Kind == 3 then o.Value == 0 else bif o.Kind == 6 then inB o.Value 1 4 else inB o.Value 0 999999)
theorem spec_OpOK_eq (o : S_Op) : spec_OpOK.f o = some (opOK o) := by
  unfold spec_OpOK.f opOK
  simp only [l01In_eq, Option.bind_some]
  cases inB o.Kind 1 6 <;> cases inB o.Key 1 9999 <;> cases o.Kind == 1 <;> cases o.Kind == 3 <;> cases o.Kind == 6 <;> rfl

def txnOK (t : S_Txn) : Bool := t.Ops.all opOK && inB t.Ops.length 1 4
theorem l09Txn_eq (t : S_Txn) (h : t.Ops.length ≤ 1073741824) : spec_l09Txn.f t = some (txnOK t) := by
  unfold spec_l09Txn.f
  have := loopO_scan (step := fun s => spec_l09Txn.s0 t s) (fun k => (k : Int)) t.Ops.length (fun k => opOK (t.Ops.getD k z_Op)) (b := false) (t := ()) (fun k hk => by
    simp only [spec_l09Txn.s0, spec_OpOK_eq, Option.bind_some, Int.toNat_natCast, decide_eq_true (show (k : Int) < (t.Ops.length : Int) by omega), cond_true, if_pos (show (0 : Int) ≤ (k : Int) ∧ (k : Int) < (t.Ops.length : Int) by omega)]
    rw [w64_id (by omega) (by omega)]
    cases opOK (t.Ops.getD k z_Op) <;> rfl) (by
    simp only [spec_l09Txn.s0]
    rw [decide_eq_false (by omega)]; rfl)
  rw [show ((0 : Int)) = ((0 : Nat) : Int) from rfl, this, all_range t.Ops z_Op opOK]
  unfold txnOK
  simp only [l01In_eq, Option.bind_some]
  cases t.Ops.all opOK <;> rfl

def batchOK (l : List S_Txn) : Bool := inB l.length 1 2 && l.all txnOK
theorem spec_BatchOK_eq (l : List S_Txn) (h : l.length ≤ 1073741824 ∧ ∀ y, y ∈ l → y.Ops.length ≤ 1073741824) : spec_BatchOK.f l = some (batchOK l) := by
  have hl := h.1
  unfold spec_BatchOK.f batchOK
  by_cases hbig : (l.length : Int) > 4096
  · rw [decide_eq_true hbig]
    have : inB (l.length : Int) 1 2 = false := by
      unfold inB; rw [decide_eq_false (show ¬ (l.length : Int) ≤ 2 by omega), Bool.and_false]
    rw [this]; rfl
  rw [decide_eq_false hbig]
  have := loopO_scan (step := fun s => spec_BatchOK.s0 l s) (fun k => (k : Int)) l.length (fun k => txnOK (l.getD k z_Txn)) (b := false) (t := ()) (fun k hk => by
    simp only [spec_BatchOK.s0, l09Txn_eq _ (h.2 _ (getD_mem hk z_Txn)), Option.bind_some, Int.toNat_natCast, decide_eq_true (show (k : Int) < (l.length : Int) by omega), cond_true, if_pos (show (0 : Int) ≤ (k : Int) ∧ (k : Int) < (l.length : Int) by omega)]
    rw [w64_id (by omega) (by omega)]
    cases txnOK (l.getD k z_Txn) <;> rfl) (by
    simp only [spec_BatchOK.s0]
    rw [decide_eq_false (by omega)]; rfl)
  simp only [l01In_eq, Option.bind_some, cond_false]
  rw [show ((0 : Int)) = ((0 : Nat) : Int) from rfl, this, all_range l z_Txn txnOK]
  cases inB (l.length : Int) 1 2 <;> cases l.all txnOK <;> rfl

theorem l08Leaves_eq (l : List Int) (h : l.length ≤ 1073741824) : spec_l08Leaves.f l = some (l.all (fun x => inB x 0 7)) := by
  unfold spec_l08Leaves.f
  have := loopO_scan (step := fun s => spec_l08Leaves.s0 l s) (fun k => (k : Int)) l.length (fun k => inB (l.getD k 0) 0 7) (b := false) (t := ()) (fun k hk => by
    simp only [spec_l08Leaves.s0, l01In_eq, Option.bind_some, Int.toNat_natCast, decide_eq_true (show (k : Int) < (l.length : Int) by omega), cond_true, if_pos (show (0 : Int) ≤ (k : Int) ∧ (k : Int) < (l.length : Int) by omega)]
    rw [w64_id (by omega) (by omega)]
    cases inB (l.getD k 0) 0 7 <;> rfl) (by
    simp only [spec_l08Leaves.s0]
    rw [decide_eq_false (by omega)]; rfl)
  have t2 : loopO (fun s => spec_l08Leaves.s0 l s) 0 = _ := this
  rw [t2, all_range l 0 (fun x => inB x 0 7)]
  cases l.all (fun x => inB x 0 7) <;> rfl

theorem l05Fates_eq (l : List Int) (h : l.length ≤ 1073741824) : spec_l05Fates.f l = some (l.all (fun x => inB x 0 2)) := by
  unfold spec_l05Fates.f
  have := loopO_scan (step := fun s => spec_l05Fates.s0 l s) (fun k => (k : Int)) l.length (fun k => inB (l.getD k 0) 0 2) (b := false) (t := ()) (fun k hk => by
    simp only [spec_l05Fates.s0, l01In_eq, Option.bind_some, Int.toNat_natCast, decide_eq_true (show (k : Int) < (l.length : Int) by omega), cond_true, if_pos (show (0 : Int) ≤ (k : Int) ∧ (k : Int) < (l.length : Int) by omega)]
    rw [w64_id (by omega) (by omega)]
    cases inB (l.getD k 0) 0 2 <;> rfl) (by
    simp only [spec_l05Fates.s0]
    rw [decide_eq_false (by omega)]; rfl)
  have t2 : loopO (fun s => spec_l05Fates.s0 l s) 0 = _ := this
  rw [t2, all_range l 0 (fun x => inB x 0 2)]
  cases l.all (fun x => inB x 0 2) <;> rfl

theorem id_laws_toOp (x : S_Op) : laws_toOp.f x = some x := by
  unfold laws_toOp.f
  rfl

theorem id_laws_toOpS (x : List S_Op) (h : x.length ≤ 1048576) : laws_toOpS.f x = some x := by
  have hlen : x.length ≤ 1048576 := h
  unfold laws_toOpS.f
  rw [if_pos (by omega)]
  have h0 : ((x.length : Int)).toNat = x.length := by simp
  rw [h0, ← filled_zero x z_Op]
  have := loopO_run (step := fun s => laws_toOpS.s0 x s.1 s.2) (fun k => (filled x z_Op k, (k : Int))) x.length (r := .out x) (fun k hk => by
    have hl := filled_len x z_Op k (by omega)
    simp only [laws_toOpS.s0, id_laws_toOp (x.getD k z_Op), decide_eq_true (show (k : Int) < (x.length : Int) by omega), cond_true, if_pos (show (0 : Int) ≤ (k : Int) ∧ (k : Int) < (x.length : Int) by omega), Option.bind_some, if_pos (show (0 : Int) ≤ (k : Int) ∧ (k : Int) < ((filled x z_Op k).length : Int) by omega), Int.toNat_natCast]
    rw [w64_id (by omega) (by omega), filled_set x z_Op k hk]
    rfl) (by
    simp only [laws_toOpS.s0, filled_all]
    rw [decide_eq_false (by omega)]; rfl)
  have this2 : loopO (fun s => laws_toOpS.s0 x s.1 s.2) (filled x z_Op 0, 0) = some (.out x) := this
  rw [this2]
  rfl

theorem id_laws_toTxn (x : S_Txn) (h : (x.Ops.length ≤ 1048576)) : laws_toTxn.f x = some x := by
  unfold laws_toTxn.f
  simp only [id_laws_toOpS x.Ops h, Option.bind_some]

theorem id_laws_toTxnS (x : List S_Txn) (h : x.length ≤ 1048576 ∧ ∀ z0 : S_Txn, z0 ∈ x → ((z0.Ops.length ≤ 1048576))) : laws_toTxnS.f x = some x := by
  have hlen : x.length ≤ 1048576 := h.1
  unfold laws_toTxnS.f
  rw [if_pos (by omega)]
  have h0 : ((x.length : Int)).toNat = x.length := by simp
  rw [h0, ← filled_zero x z_Txn]
  have := loopO_run (step := fun s => laws_toTxnS.s0 x s.1 s.2) (fun k => (filled x z_Txn k, (k : Int))) x.length (r := .out x) (fun k hk => by
    have hl := filled_len x z_Txn k (by omega)
    simp only [laws_toTxnS.s0, id_laws_toTxn (x.getD k z_Txn) (h.2 _ (getD_mem hk _)), decide_eq_true (show (k : Int) < (x.length : Int) by omega), cond_true, if_pos (show (0 : Int) ≤ (k : Int) ∧ (k : Int) < (x.length : Int) by omega), Option.bind_some, if_pos (show (0 : Int) ≤ (k : Int) ∧ (k : Int) < ((filled x z_Txn k).length : Int) by omega), Int.toNat_natCast]
    rw [w64_id (by omega) (by omega), filled_set x z_Txn k hk]
    rfl) (by
    simp only [laws_toTxnS.s0, filled_all]
    rw [decide_eq_false (by omega)]; rfl)
  have this2 : loopO (fun s => laws_toTxnS.s0 x s.1 s.2) (filled x z_Txn 0, 0) = some (.out x) := this
  rw [this2]
  rfl

theorem id_laws_toIntS (x : List Int) (h : x.length ≤ 1048576) : laws_toIntS.f x = some x := by
  have hlen : x.length ≤ 1048576 := h
  unfold laws_toIntS.f
  rw [if_pos (by omega)]
  have h0 : ((x.length : Int)).toNat = x.length := by simp
  rw [h0, ← filled_zero x 0]
  have := loopO_run (step := fun s => laws_toIntS.s0 x s.1 s.2) (fun k => (filled x 0 k, (k : Int))) x.length (r := .out x) (fun k hk => by
    have hl := filled_len x 0 k (by omega)
    simp only [laws_toIntS.s0, decide_eq_true (show (k : Int) < (x.length : Int) by omega), cond_true, if_pos (show (0 : Int) ≤ (k : Int) ∧ (k : Int) < (x.length : Int) by omega), Option.bind_some, if_pos (show (0 : Int) ≤ (k : Int) ∧ (k : Int) < ((filled x 0 k).length : Int) by omega), Int.toNat_natCast]
    rw [w64_id (by omega) (by omega), filled_set x 0 k hk]
    rfl) (by
    simp only [laws_toIntS.s0, filled_all]
    rw [decide_eq_false (by omega)]; rfl)
  have this2 : loopO (fun s => laws_toIntS.s0 x s.1 s.2) (filled x 0 0, 0) = some (.out x) := this
  rw [this2]
  rfl

theorem id_laws_toAct (x : S_Act) (h : (x.Batch.length ≤ 1048576 ∧ ∀ z0 : S_Txn, z0 ∈ x.Batch → ((z0.Ops.length ≤ 1048576))) ∧ (x.Draws.length ≤ 1048576) ∧ (x.Fates.length ≤ 1048576)) : laws_toAct.f x = some x := by
  unfold laws_toAct.f
  simp only [id_laws_toTxnS x.Batch h.1, id_laws_toIntS x.Draws h.2.1, id_laws_toIntS x.Fates h.2.2, Option.bind_some]

theorem idx_slices_IndexFunc_impl_Txn_impl_Txn (l : List S_Txn) (q : S_Txn → Option Bool) (p : S_Txn → Bool) (h : l.length ≤ 1073741824) (hq : ∀ x, x ∈ l → q x = some (p x)) : slices_IndexFunc_impl_Txn_impl_Txn.f l q = some (idxOf l z_Txn p) := by
  unfold slices_IndexFunc_impl_Txn_impl_Txn.f idxOf
  have := loopO_find (step := fun s => slices_IndexFunc_impl_Txn_impl_Txn.s0 l q s) (fun k => (k : Int)) l.length (fun k => p (l.getD k z_Txn)) (fun k => (k : Int)) (t := ()) (fun k hk => by
    simp only [slices_IndexFunc_impl_Txn_impl_Txn.s0, decide_eq_true (show (k : Int) < (l.length : Int) by omega), cond_true, if_pos (show (0 : Int) ≤ (k : Int) ∧ (k : Int) < (l.length : Int) by omega), Int.toNat_natCast, hq _ (getD_mem hk _), Option.bind_some]
    rw [w64_id (by omega) (by omega)]
    cases p (l.getD k z_Txn) <;> rfl) (by
    simp only [slices_IndexFunc_impl_Txn_impl_Txn.s0]
    rw [decide_eq_false (by omega)]; rfl)
  rw [show ((0 : Int)) = ((0 : Nat) : Int) from rfl, this]
  cases (List.range l.length).find? (fun k => p (l.getD k z_Txn)) <;> rfl

theorem any_slices_ContainsFunc_impl_Txn_impl_Txn (l : List S_Txn) (q : S_Txn → Option Bool) (p : S_Txn → Bool) (h : l.length ≤ 1073741824) (hq : ∀ x, x ∈ l → q x = some (p x)) : slices_ContainsFunc_impl_Txn_impl_Txn.f l q = some (l.any p) := by
  unfold slices_ContainsFunc_impl_Txn_impl_Txn.f
  rw [idx_slices_IndexFunc_impl_Txn_impl_Txn l q p h hq, ← idxOf_any l z_Txn p]
  rfl

theorem all_impl_areAll_impl_Txn (l : List S_Txn) (q : S_Txn → Option Bool) (p : S_Txn → Bool) (h : l.length ≤ 1073741824) (hq : ∀ x, x ∈ l → q x = some (p x)) : impl_areAll_impl_Txn.f l q = some (l.all p) := by
  unfold impl_areAll_impl_Txn.f
  rw [any_slices_ContainsFunc_impl_Txn_impl_Txn l _ (fun x => !p x) h (fun x hx => by unfold impl_areAll_impl_Txn__c1.f; rw [hq x hx]; rfl)]
  simp only [Option.bind_some, List.any_eq_not_all_not, Bool.not_not]

theorem idx_slices_IndexFunc_impl_Op_impl_Op (l : List S_Op) (q : S_Op → Option Bool) (p : S_Op → Bool) (h : l.length ≤ 1073741824) (hq : ∀ x, x ∈ l → q x = some (p x)) : slices_IndexFunc_impl_Op_impl_Op.f l q = some (idxOf l z_Op p) := by
  unfold slices_IndexFunc_impl_Op_impl_Op.f idxOf
  have := loopO_find (step := fun s => slices_IndexFunc_impl_Op_impl_Op.s0 l q s) (fun k => (k : Int)) l.length (fun k => p (l.getD k z_Op)) (fun k => (k : Int)) (t := ()) (fun k hk => by
    simp only [slices_IndexFunc_impl_Op_impl_Op.s0, decide_eq_true (show (k : Int) < (l.length : Int) by omega), cond_true, if_pos (show (0 : Int) ≤ (k : Int) ∧ (k : Int) < (l.length : Int) by omega), Int.toNat_natCast, hq _ (getD_mem hk _), Option.bind_some]
    rw [w64_id (by omega) (by omega)]
    cases p (l.getD k z_Op) <;> rfl) (by
    simp only [slices_IndexFunc_impl_Op_impl_Op.s0]
    rw [decide_eq_false (by omega)]; rfl)
  rw [show ((0 : Int)) = ((0 : Nat) : Int) from rfl, this]
  cases (List.range l.length).find? (fun k => p (l.getD k z_Op)) <;> rfl

theorem any_slices_ContainsFunc_impl_Op_impl_Op (l : List S_Op) (q : S_Op → Option Bool) (p : S_Op → Bool) (h : l.length ≤ 1073741824) (hq : ∀ x, x ∈ l → q x = some (p x)) : slices_ContainsFunc_impl_Op_impl_Op.f l q = some (l.any p) := by
  unfold slices_ContainsFunc_impl_Op_impl_Op.f
  rw [idx_slices_IndexFunc_impl_Op_impl_Op l q p h hq, ← idxOf_any l z_Op p]
  rfl

theorem all_impl_areAll_impl_Op (l : List S_Op) (q : S_Op → Option Bool) (p : S_Op → Bool) (h : l.length ≤ 1073741824) (hq : ∀ x, x ∈ l → q x = some (p x)) : impl_areAll_impl_Op.f l q = some (l.all p) := by
  unfold impl_areAll_impl_Op.f
  rw [any_slices_ContainsFunc_impl_Op_impl_Op l _ (fun x => !p x) h (fun x hx => by unfold impl_areAll_impl_Op__c1.f; rw [hq x hx]; rfl)]
  simp only [Option.bind_some, List.any_eq_not_all_not, Bool.not_not]

theorem isKey_eq (x : Int) : impl_isKey.f x = some (inB x 1 9999) := by unfold impl_isKey.f; rw [within_eq]; rfl

theorem isValue_eq (x : Int) : impl_isValue.f x = some (inB x 0 999999) := by unfold impl_isValue.f; rw [within_eq]; rfl

theorem impl_OpOK_eq (o : S_Op) : impl_OpOK.f o = some (opOK o) := by
  unfold impl_OpOK.f impl_isBare.f opOK
  simp only [within_eq, isKey_eq, isValue_eq, Option.bind_some]
  cases inB o.Kind 1 6 <;> cases inB o.Key 1 9999 <;> cases o.Kind == 1 <;> cases o.Kind == 3 <;> cases o.Kind == 6 <;> rfl

theorem isTxn_eq (t : S_Txn) (h : t.Ops.length ≤ 1073741824) : impl_isTxn.f t = some (txnOK t) := by
  unfold impl_isTxn.f txnOK
  rw [all_impl_areAll_impl_Op t.Ops _ opOK h (fun x _ => impl_OpOK_eq x)]
  simp only [within_eq, Option.bind_some]
  cases inB (t.Ops.length : Int) 1 4 <;> cases t.Ops.all opOK <;> rfl

theorem impl_BatchOK_eq (l : List S_Txn) (h : l.length ≤ 1073741824 ∧ ∀ y, y ∈ l → y.Ops.length ≤ 1073741824) : impl_BatchOK.f l = some (batchOK l) := by
  unfold impl_BatchOK.f batchOK
  rw [all_impl_areAll_impl_Txn l _ txnOK h.1 (fun x hx => isTxn_eq x (h.2 x hx))]
  simp only [within_eq, Option.bind_some]
  cases inB (l.length : Int) 1 2 <;> cases l.all txnOK <;> rfl

theorem idx_slices_IndexFunc_int_int (l : List Int) (q : Int → Option Bool) (p : Int → Bool) (h : l.length ≤ 1073741824) (hq : ∀ x, x ∈ l → q x = some (p x)) : slices_IndexFunc_int_int.f l q = some (idxOf l 0 p) := by
  unfold slices_IndexFunc_int_int.f idxOf
  have := loopO_find (step := fun s => slices_IndexFunc_int_int.s0 l q s) (fun k => (k : Int)) l.length (fun k => p (l.getD k 0)) (fun k => (k : Int)) (t := ()) (fun k hk => by
    simp only [slices_IndexFunc_int_int.s0, decide_eq_true (show (k : Int) < (l.length : Int) by omega), cond_true, if_pos (show (0 : Int) ≤ (k : Int) ∧ (k : Int) < (l.length : Int) by omega), Int.toNat_natCast, hq _ (getD_mem hk _), Option.bind_some]
    rw [w64_id (by omega) (by omega)]
    cases p (l.getD k 0) <;> rfl) (by
    simp only [slices_IndexFunc_int_int.s0]
    rw [decide_eq_false (by omega)]; rfl)
  rw [show ((0 : Int)) = ((0 : Nat) : Int) from rfl, this]
  cases (List.range l.length).find? (fun k => p (l.getD k 0)) <;> rfl

theorem any_slices_ContainsFunc_int_int (l : List Int) (q : Int → Option Bool) (p : Int → Bool) (h : l.length ≤ 1073741824) (hq : ∀ x, x ∈ l → q x = some (p x)) : slices_ContainsFunc_int_int.f l q = some (l.any p) := by
  unfold slices_ContainsFunc_int_int.f
  rw [idx_slices_IndexFunc_int_int l q p h hq, ← idxOf_any l 0 p]
  rfl

theorem all_impl_areAll_int (l : List Int) (q : Int → Option Bool) (p : Int → Bool) (h : l.length ≤ 1073741824) (hq : ∀ x, x ∈ l → q x = some (p x)) : impl_areAll_int.f l q = some (l.all p) := by
  unfold impl_areAll_int.f
  rw [any_slices_ContainsFunc_int_int l _ (fun x => !p x) h (fun x hx => by unfold impl_areAll_int__c1.f; rw [hq x hx]; rfl)]
  simp only [Option.bind_some, List.any_eq_not_all_not, Bool.not_not]

theorem isLeaf_eq (x : Int) : impl_isLeaf.f x = some (inB x 0 7) := by unfold impl_isLeaf.f; rw [within_eq]; rfl

def drawsC (l : List Int) (n : Int) : Int := bif !((l.length : Int) == n) then 13 else bif l.all (fun x => inB x 0 7) then 0 else 4
theorem drawsCode_eq (l : List Int) (n : Int) (h : l.length ≤ 1073741824) : impl_drawsCode.f l n = some (drawsC l n) := by
  unfold impl_drawsCode.f drawsC
  rw [all_impl_areAll_int l _ (fun x => inB x 0 7) h (fun x _ => isLeaf_eq x)]
  simp only [bne, Option.bind_some]
  cases ((l.length : Int) == n) <;> cases l.all (fun x => inB x 0 7) <;> rfl
theorem l11Draws_eq (l : List Int) (n : Int) (h : l.length ≤ 1073741824) (hn : n ≤ 4096) : ∃ c, spec_l11Draws.f l n = some c ∧ ((c == 0) = (drawsC l n == 0)) := by
  unfold spec_l11Draws.f drawsC
  simp only [l08Leaves_eq l h, bne, Option.bind_some]
  by_cases hb : (l.length : Int) > 4096
  · rw [decide_eq_true hb]
    have : ((l.length : Int) == n) = false := by simp only [beq_eq_false_iff_ne]; omega
    rw [this]; exact ⟨2, rfl, rfl⟩
  · rw [decide_eq_false hb]
    cases ((l.length : Int) == n)
    · exact ⟨13, rfl, rfl⟩
    · cases l.all (fun x => inB x 0 7)
      · exact ⟨4, rfl, rfl⟩
      · exact ⟨0, rfl, rfl⟩

theorem areFates_eq (l : List Int) (h : l.length ≤ 1073741824) : impl_areFates.f l = some (l.all (fun x => inB x 0 2)) := by
  unfold impl_areFates.f
  rw [all_impl_areAll_int l _ (fun x => inB x 0 2) h (fun x _ => by unfold impl_areFates_c1.f; rw [within_eq]; rfl)]
  rfl

set_option maxHeartbeats 0 in
theorem actOK_eq (a : S_Act) (hb : a.Batch.length ≤ 1073741824 ∧ ∀ y, y ∈ a.Batch → y.Ops.length ≤ 1073741824) (hd : a.Draws.length ≤ 1073741824) (hf : a.Fates.length ≤ 1073741824) : impl_ActOK.f a = spec_ActOK.f a ∧ ∃ r, spec_ActOK.f a = some r := by
  obtain ⟨c, hc1, hc2⟩ := l11Draws_eq a.Draws 40 hd (by decide)
  have hgt : decide ((a.Fates.length : Int) > 100) = !decide ((a.Fates.length : Int) ≤ 100) := not_gt _ _
  have e0 : ∀ n : Nat, decide ((n : Int) > 0) = !((n : Int) == 0) := fun n => by
    by_cases h : n = 0
    · subst h; rfl
    · rw [decide_eq_true (by omega)]
      have : ((n : Int) == 0) = false := by simp only [beq_eq_false_iff_ne]; omega
      rw [this]; rfl
  have hsum : decide (w64 ((a.Batch.length : Int) + (a.Draws.length : Int)) > 0) = !(((a.Batch.length : Int) == 0) && ((a.Draws.length : Int) == 0)) := by
    have hbl := hb.1
    rw [w64_id (by omega) (by omega), show (a.Batch.length : Int) + (a.Draws.length : Int) = ((a.Batch.length + a.Draws.length : Nat) : Int) from by omega, e0]
    by_cases h1 : a.Batch.length = 0
    · by_cases h2 : a.Draws.length = 0
      · rw [h1, h2]; rfl
      · have q1 : ((a.Batch.length + a.Draws.length : Nat) : Int) ≠ 0 := by omega
        have q2 : (a.Draws.length : Int) ≠ 0 := by omega
        rw [beq_false_of_ne q1, beq_false_of_ne q2, Bool.and_false]
    · have q1 : ((a.Batch.length + a.Draws.length : Nat) : Int) ≠ 0 := by omega
      have q2 : (a.Batch.length : Int) ≠ 0 := by omega
      rw [beq_false_of_ne q1, beq_false_of_ne q2, Bool.false_and]
  have key : spec_ActOK.f a = impl_ActOK.f a ∧ ∃ r, impl_ActOK.f a = some r := by
    unfold spec_ActOK.f impl_ActOK.f impl_Act_isSubmission.f impl_Act_isFateless.f impl_Act_isNowhere.f impl_Act_isTorn.f impl_isTear.f impl_Act_isQuiet.f impl_Act_isFateless.f
    simp only [within_eq, l01In_eq, spec_BatchOK_eq a.Batch hb, impl_BatchOK_eq a.Batch hb, hc1, drawsCode_eq a.Draws 40 hd, l05Fates_eq a.Fates hf, areFates_eq a.Fates hf, l05In_eq, isSector_eq, Option.bind_some, bne, hc2, hgt, hsum, e0]
    have kd : ∀ k : Int, inB a.Kind 1 10 = inB a.Kind 1 10 := fun _ => rfl
    by_cases k1 : a.Kind = 1
    · rw [show (a.Kind == 1) = true from by simpa using k1, show (a.Kind == 6) = false from by rw [k1]; rfl, show (a.Kind == 7) = false from by rw [k1]; rfl, show (a.Kind == 8) = false from by rw [k1]; rfl, show inB a.Kind 1 10 = true from by rw [k1]; rfl]
      cases batchOK a.Batch <;> cases (drawsC a.Draws 40 == 0) <;> cases (a.Phase == 0) <;> cases ((a.Fates.length : Int) == 0) <;> cases (a.At == 0) <;> cases (a.Place == 0) <;> exact ⟨rfl, _, rfl⟩
    by_cases k6 : a.Kind = 6
    · rw [show (a.Kind == 1) = false from by simpa using k1, show (a.Kind == 6) = true from by simpa using k6, show (a.Kind == 7) = false from by rw [k6]; rfl, show (a.Kind == 8) = false from by rw [k6]; rfl, show inB a.Kind 1 10 = true from by rw [k6]; rfl]
      cases batchOK a.Batch <;> cases (drawsC a.Draws 40 == 0) <;> cases inB a.Phase 0 2 <;> cases a.Fates.all (fun x => inB x 0 2) <;> cases decide ((a.Fates.length : Int) ≤ 100) <;> cases (a.At == 0) <;> cases (a.Place == 0) <;> exact ⟨rfl, _, rfl⟩
    by_cases k7 : a.Kind = 7
    · rw [show (a.Kind == 1) = false from by simpa using k1, show (a.Kind == 6) = false from by simpa using k6, show (a.Kind == 7) = true from by simpa using k7, show (a.Kind == 8) = false from by rw [k7]; rfl, show inB a.Kind 1 10 = true from by rw [k7]; rfl]
      cases ((a.Batch.length : Int) == 0) <;> cases ((a.Draws.length : Int) == 0) <;> cases inB a.Phase 0 2 <;> cases a.Fates.all (fun x => inB x 0 2) <;> cases decide ((a.Fates.length : Int) ≤ 100) <;> cases (a.At == 0) <;> cases (a.Place == 0) <;> cases (a.By == 0) <;> exact ⟨rfl, _, rfl⟩
    by_cases k8 : a.Kind = 8
    · rw [show (a.Kind == 1) = false from by simpa using k1, show (a.Kind == 6) = false from by simpa using k6, show (a.Kind == 7) = false from by simpa using k7, show (a.Kind == 8) = true from by simpa using k8, show inB a.Kind 1 10 = true from by rw [k8]; rfl]
      cases ((a.Batch.length : Int) == 0) <;> cases ((a.Draws.length : Int) == 0) <;> cases (a.Phase == 0) <;> cases ((a.Fates.length : Int) == 0) <;> cases inB a.At 0 39 <;> cases inB a.Place 0 699 <;> cases inB a.By 1 255 <;> exact ⟨rfl, _, rfl⟩
    · rw [show (a.Kind == 1) = false from by simpa using k1, show (a.Kind == 6) = false from by simpa using k6, show (a.Kind == 7) = false from by simpa using k7, show (a.Kind == 8) = false from by simpa using k8]
      cases inB a.Kind 1 10 <;> cases ((a.Batch.length : Int) == 0) <;> cases ((a.Draws.length : Int) == 0) <;> cases (a.Phase == 0) <;> cases ((a.Fates.length : Int) == 0) <;> cases (a.At == 0) <;> cases (a.Place == 0) <;> cases (a.By == 0) <;> exact ⟨rfl, _, rfl⟩
  exact ⟨key.1.symm, key.1 ▸ key.2⟩

theorem refl_laws_eqOp (x : S_Op) : laws_eqOp.f x x = some true := by
  unfold laws_eqOp.f
  simp only [bne_self_eq_false, beq_self_eq_true, Bool.not_true, cond_false, Option.bind_some]

theorem reflF_laws_eqOp (x : S_Op) : laws_eqOp.f x x = some true := by
  unfold laws_eqOp.f
  simp only [bne_self_eq_false, beq_self_eq_true, bs_self, Bool.not_true, cond_false, Option.bind_some]

theorem refl_laws_eqOpS (x : List S_Op) (h : x.length ≤ 1048576) : laws_eqOpS.f x x = some true := by
  have hlen : x.length ≤ 1048576 := h
  unfold laws_eqOpS.f
  rw [show ((x.length : Int) != (x.length : Int)) = false from by simp]
  have := loopO_run (step := fun s => laws_eqOpS.s0 x x s) (fun k => (k : Int)) x.length (r := .out ()) (fun k hk => by
    simp only [laws_eqOpS.s0, decide_eq_true (show (k : Int) < (x.length : Int) by omega), cond_true, if_pos (show (0 : Int) ≤ (k : Int) ∧ (k : Int) < (x.length : Int) by omega), Int.toNat_natCast, refl_laws_eqOp (x.getD k z_Op), bne_self_eq_false, beq_self_eq_true, Bool.not_true, cond_false, Option.bind_some]
    rw [w64_id (by omega) (by omega)]
    rfl) (by
    simp only [laws_eqOpS.s0]
    rw [decide_eq_false (by omega)]; rfl)
  rw [show ((0 : Int)) = ((0 : Nat) : Int) from rfl, this]
  rfl

theorem reflL_laws_eqOpS (x : List S_Op) (h : x.length ≤ 1048576) : laws_eqOpS.f x x = some true := by
  have hlen : x.length ≤ 1048576 := h
  unfold laws_eqOpS.f
  rw [show ((x.length : Int) != (x.length : Int)) = false from by simp]
  have := loopO_run (step := fun s => laws_eqOpS.s0 x x s) (fun k => (k : Int)) x.length (r := .out ()) (fun k hk => by
    simp only [laws_eqOpS.s0, decide_eq_true (show (k : Int) < (x.length : Int) by omega), cond_true, if_pos (show (0 : Int) ≤ (k : Int) ∧ (k : Int) < (x.length : Int) by omega), Int.toNat_natCast, reflF_laws_eqOp (x.getD k z_Op), bne_self_eq_false, beq_self_eq_true, bs_self, Bool.not_true, cond_false, Option.bind_some]
    rw [w64_id (by omega) (by omega)]
    rfl) (by
    simp only [laws_eqOpS.s0]
    rw [decide_eq_false (by omega)]; rfl)
  rw [show ((0 : Int)) = ((0 : Nat) : Int) from rfl, this]
  rfl

theorem refl_laws_eqTxn (x : S_Txn) (h : (x.Ops.length ≤ 1048576)) : laws_eqTxn.f x x = some true := by
  unfold laws_eqTxn.f
  simp only [refl_laws_eqOpS x.Ops h, bne_self_eq_false, beq_self_eq_true, Bool.not_true, cond_false, Option.bind_some]

theorem reflL_laws_eqTxn (x : S_Txn) (h : (x.Ops.length ≤ 1048576)) : laws_eqTxn.f x x = some true := by
  unfold laws_eqTxn.f
  simp only [reflL_laws_eqOpS x.Ops h, bne_self_eq_false, beq_self_eq_true, bs_self, Bool.not_true, cond_false, Option.bind_some]

theorem refl_laws_eqTxnS (x : List S_Txn) (h : x.length ≤ 1048576 ∧ ∀ z0 : S_Txn, z0 ∈ x → ((z0.Ops.length ≤ 1048576))) : laws_eqTxnS.f x x = some true := by
  have hlen : x.length ≤ 1048576 := h.1
  unfold laws_eqTxnS.f
  rw [show ((x.length : Int) != (x.length : Int)) = false from by simp]
  have := loopO_run (step := fun s => laws_eqTxnS.s0 x x s) (fun k => (k : Int)) x.length (r := .out ()) (fun k hk => by
    simp only [laws_eqTxnS.s0, decide_eq_true (show (k : Int) < (x.length : Int) by omega), cond_true, if_pos (show (0 : Int) ≤ (k : Int) ∧ (k : Int) < (x.length : Int) by omega), Int.toNat_natCast, refl_laws_eqTxn (x.getD k z_Txn) (h.2 _ (getD_mem hk _)), bne_self_eq_false, beq_self_eq_true, Bool.not_true, cond_false, Option.bind_some]
    rw [w64_id (by omega) (by omega)]
    rfl) (by
    simp only [laws_eqTxnS.s0]
    rw [decide_eq_false (by omega)]; rfl)
  rw [show ((0 : Int)) = ((0 : Nat) : Int) from rfl, this]
  rfl

theorem reflL_laws_eqTxnS (x : List S_Txn) (h : x.length ≤ 1048576 ∧ ∀ z0 : S_Txn, z0 ∈ x → ((z0.Ops.length ≤ 1048576))) : laws_eqTxnS.f x x = some true := by
  have hlen : x.length ≤ 1048576 := h.1
  unfold laws_eqTxnS.f
  rw [show ((x.length : Int) != (x.length : Int)) = false from by simp]
  have := loopO_run (step := fun s => laws_eqTxnS.s0 x x s) (fun k => (k : Int)) x.length (r := .out ()) (fun k hk => by
    simp only [laws_eqTxnS.s0, decide_eq_true (show (k : Int) < (x.length : Int) by omega), cond_true, if_pos (show (0 : Int) ≤ (k : Int) ∧ (k : Int) < (x.length : Int) by omega), Int.toNat_natCast, reflL_laws_eqTxn (x.getD k z_Txn) (h.2 _ (getD_mem hk _)), bne_self_eq_false, beq_self_eq_true, bs_self, Bool.not_true, cond_false, Option.bind_some]
    rw [w64_id (by omega) (by omega)]
    rfl) (by
    simp only [laws_eqTxnS.s0]
    rw [decide_eq_false (by omega)]; rfl)
  rw [show ((0 : Int)) = ((0 : Nat) : Int) from rfl, this]
  rfl

theorem refl_laws_eqIntS (x : List Int) (h : x.length ≤ 1048576) : laws_eqIntS.f x x = some true := by
  have hlen : x.length ≤ 1048576 := h
  unfold laws_eqIntS.f
  rw [show ((x.length : Int) != (x.length : Int)) = false from by simp]
  have := loopO_run (step := fun s => laws_eqIntS.s0 x x s) (fun k => (k : Int)) x.length (r := .out ()) (fun k hk => by
    simp only [laws_eqIntS.s0, decide_eq_true (show (k : Int) < (x.length : Int) by omega), cond_true, if_pos (show (0 : Int) ≤ (k : Int) ∧ (k : Int) < (x.length : Int) by omega), Int.toNat_natCast, bne_self_eq_false, beq_self_eq_true, Bool.not_true, cond_false, Option.bind_some]
    rw [w64_id (by omega) (by omega)]
    rfl) (by
    simp only [laws_eqIntS.s0]
    rw [decide_eq_false (by omega)]; rfl)
  rw [show ((0 : Int)) = ((0 : Nat) : Int) from rfl, this]
  rfl

theorem reflL_laws_eqIntS (x : List Int) (h : x.length ≤ 1048576) : laws_eqIntS.f x x = some true := by
  have hlen : x.length ≤ 1048576 := h
  unfold laws_eqIntS.f
  rw [show ((x.length : Int) != (x.length : Int)) = false from by simp]
  have := loopO_run (step := fun s => laws_eqIntS.s0 x x s) (fun k => (k : Int)) x.length (r := .out ()) (fun k hk => by
    simp only [laws_eqIntS.s0, decide_eq_true (show (k : Int) < (x.length : Int) by omega), cond_true, if_pos (show (0 : Int) ≤ (k : Int) ∧ (k : Int) < (x.length : Int) by omega), Int.toNat_natCast, bne_self_eq_false, beq_self_eq_true, bs_self, Bool.not_true, cond_false, Option.bind_some]
    rw [w64_id (by omega) (by omega)]
    rfl) (by
    simp only [laws_eqIntS.s0]
    rw [decide_eq_false (by omega)]; rfl)
  rw [show ((0 : Int)) = ((0 : Nat) : Int) from rfl, this]
  rfl

theorem refl_laws_eqAct (x : S_Act) (h : (x.Batch.length ≤ 1048576 ∧ ∀ z0 : S_Txn, z0 ∈ x.Batch → ((z0.Ops.length ≤ 1048576))) ∧ (x.Draws.length ≤ 1048576) ∧ (x.Fates.length ≤ 1048576)) : laws_eqAct.f x x = some true := by
  unfold laws_eqAct.f
  simp only [refl_laws_eqTxnS x.Batch h.1, refl_laws_eqIntS x.Draws h.2.1, refl_laws_eqIntS x.Fates h.2.2, bne_self_eq_false, beq_self_eq_true, Bool.not_true, cond_false, Option.bind_some]

theorem reflL_laws_eqAct (x : S_Act) (h : (x.Batch.length ≤ 1048576 ∧ ∀ z0 : S_Txn, z0 ∈ x.Batch → ((z0.Ops.length ≤ 1048576))) ∧ (x.Draws.length ≤ 1048576) ∧ (x.Fates.length ≤ 1048576)) : laws_eqAct.f x x = some true := by
  unfold laws_eqAct.f
  simp only [reflL_laws_eqTxnS x.Batch h.1, reflL_laws_eqIntS x.Draws h.2.1, reflL_laws_eqIntS x.Fates h.2.2, bne_self_eq_false, beq_self_eq_true, bs_self, Bool.not_true, cond_false, Option.bind_some]

end Go.Proofs.Ytmafglodgnbajaa
