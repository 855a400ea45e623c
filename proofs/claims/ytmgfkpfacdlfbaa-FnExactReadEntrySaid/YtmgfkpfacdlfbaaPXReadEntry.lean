/- What the models of these functions come to. -/
import Derived.Test.YtmgfkpfacdlfbaaP0
import Derived.Test.YtmgfkpfacdlfbaaGXReadEntryn1
namespace Go.Proofs.Ytmgfkpfacdlfbaa
open Go Go.Z Go.Proofs Go.MuLone Go.ChangeShapes Go.WideShapes Go.ChangeAt Go.RowKit
set_option linter.unusedVariables false
set_option linter.unusedSimpArgs false
def opI (L : List Int) (s : Nat × Bool) : S_Op × (Nat × Bool) := (⟨(nI L 1 6 s).1, (nI L 1 9999 (nI L 1 6 s).2).1, (nI L 0 999999 (nI L 1 9999 (nI L 1 6 s).2).2).1⟩, (nI L 0 999999 (nI L 1 9999 (nI L 1 6 s).2).2).2)
def opS (L : List Int) (q : Nat) : S_Op × Nat := (⟨(nS L q).1, (nS L (nS L q).2).1, (nS L (nS L (nS L q).2).2).1⟩, (nS L (nS L (nS L q).2).2).2)
def rngO (b : S_Op) : Bool := inB b.Kind 1 6 && inB b.Key 1 9999 && inB b.Value 0 999999
theorem op_pair (L : List Int) : RPair L (opI L) (opS L) rngO :=
  RPair.seq (α := Int × Int) (RPair.seq (RPair.base L 1 6 (by decide)) (RPair.base L 1 9999 (by decide)) Prod.mk (fun ab => inB ab.1 1 6 && inB ab.2 1 9999) (fun _ _ => rfl)) (RPair.base L 0 999999 (by decide)) (fun ab c => ⟨ab.1, ab.2, c⟩) rngO (fun _ _ => rfl)
theorem opS_le {L : List Int} {q : Nat} (h : q ≤ L.length + 1) : (opS L q).2 ≤ L.length + 1 := nS_le (nS_le (nS_le h))
def txI (L : List Int) (s : Nat × Bool) : S_Txn × (Nat × Bool) := (⟨(rep (opI L) (nI L 1 4 s).1.toNat (nI L 1 4 s).2).1⟩, (rep (opI L) (nI L 1 4 s).1.toNat (nI L 1 4 s).2).2)
def txS (L : List Int) (q : Nat) : S_Txn × Nat := (⟨(rep (opS L) (cS L 4 q).1.toNat (cS L 4 q).2).1⟩, (rep (opS L) (cS L 4 q).1.toNat (cS L 4 q).2).2)
def rngT (t : S_Txn) : Bool := inB (t.Ops.length : Int) 1 4 && t.Ops.all rngO
theorem tx_pair (L : List Int) : RPair L (txI L) (txS L) rngT := RPair.count (op_pair L) 4 (fun l => (⟨l⟩ : S_Txn)) rngT (by decide) (fun _ => rfl)
theorem txS_le {L : List Int} {q : Nat} (h : q ≤ L.length + 1) : (txS L q).2 ≤ L.length + 1 := rep_le (f := opS L) (fun q hq => opS_le hq) _ _ (cS_le h)
def enI (L : List Int) (s : Nat × Bool) : (List Int × List S_Txn) × (Nat × Bool) :=
  (((rep (nI L 0 7) 40 s).1, (rep (txI L) (nI L 1 2 (rep (nI L 0 7) 40 s).2).1.toNat (nI L 1 2 (rep (nI L 0 7) 40 s).2).2).1), (rep (txI L) (nI L 1 2 (rep (nI L 0 7) 40 s).2).1.toNat (nI L 1 2 (rep (nI L 0 7) 40 s).2).2).2)
def enS (L : List Int) (q : Nat) : (List Int × List S_Txn) × Nat :=
  (((rep (nS L) 40 q).1, (rep (txS L) (cS L 2 (rep (nS L) 40 q).2).1.toNat (cS L 2 (rep (nS L) 40 q).2).2).1), (rep (txS L) (cS L 2 (rep (nS L) 40 q).2).1.toNat (cS L 2 (rep (nS L) 40 q).2).2).2)
def rngE (x : List Int × List S_Txn) : Bool := x.1.all (fun y => inB y 0 7) && (inB (x.2.length : Int) 1 2 && x.2.all rngT)
theorem en_pair (L : List Int) : RPair L (enI L) (enS L) rngE :=
  RPair.seq ((RPair.base L 0 7 (by decide)).reps 40) (RPair.count (tx_pair L) 2 (fun l => l) (fun l => inB (l.length : Int) 1 2 && l.all rngT) (by decide) (fun _ => rfl)) Prod.mk rngE (fun _ _ => rfl)
theorem nI_cnt (L : List Int) (hi : Int) (h : 0 ≤ hi) (s : Nat × Bool) (lo : Int) (hlo : 0 ≤ lo) : 0 ≤ (nI L lo hi s).1 ∧ (nI L lo hi s).1 ≤ hi := by
  unfold nI
  split
  · exact ⟨Int.le_refl _, h⟩
  · split
    · rename_i q; have h2 := inB_iff.1 q.2; exact ⟨by omega, h2.2⟩
    · exact ⟨Int.le_refl _, h⟩
theorem cS_cnt (L : List Int) (most : Int) (h : 0 ≤ most) (q : Nat) : 0 ≤ (cS L most q).1 ∧ (cS L most q).1 ≤ most := by
  unfold cS; split
  · rename_i hq; exact inB_iff.1 hq
  · exact ⟨Int.le_refl _, h⟩
theorem txI_len (L : List Int) (s : Nat × Bool) : (txI L s).1.Ops.length ≤ 4 := by
  have := nI_cnt L 4 (by decide) s 1 (by decide)
  unfold txI; simp only [rep_len]; omega
theorem txS_len (L : List Int) (q : Nat) : (txS L q).1.Ops.length ≤ 4 := by
  have := cS_cnt L 4 (by decide) q
  unfold txS; simp only [rep_len]; omega
theorem rep_all {σ α : Type} (f : σ → α × σ) (P : α → Prop) (h : ∀ s, P (f s).1) : ∀ (n : Nat) (s : σ), ∀ x ∈ (rep f n s).1, P x
  | 0, s, x, hx => by simp [rep] at hx
  | n + 1, s, x, hx => by
    simp only [rep, List.mem_append, List.mem_singleton] at hx
    rcases hx with hx | rfl
    · exact rep_all f P h n s x hx
    · exact h _

theorem refl_laws_eqOp (x : S_Op) : laws_eqOp.f x x = some true := by
  unfold laws_eqOp.f
  simp only [bne_self_eq_false, beq_self_eq_true, Bool.not_true, cond_false, Option.bind_some]

theorem reflF_laws_eqOp (x : S_Op) : laws_eqOp.f x x = some true := by
  unfold laws_eqOp.f
  simp only [bne_self_eq_false, beq_self_eq_true, bs_self, Bool.not_true, cond_false, Option.bind_some]

theorem refl_laws_eqOpS (x : List S_Op) (h : x.length ≤ 1048576) : laws_eqOpS.f x x = some true := by
  have hlen : x.length ≤ 1048576 := h
  unfold laws_eqOpS.f
  rw [show ((x.length : Int) != (x.length : Int)) = false from by simp]
  have := loopO_run (step := fun s => laws_eqOpS.s0 x x s) (fun k => (k : Int)) x.length (r := .out ()) (fun k hk => by
    simp only [laws_eqOpS.s0, decide_eq_true (show (k : Int) < (x.length : Int) by omega), cond_true, if_pos (show (0 : Int) ≤ (k : Int) ∧ (k : Int) < (x.length : Int) by omega), Int.toNat_natCast, refl_laws_eqOp (x.getD k z_Op), bne_self_eq_false, beq_self_eq_true, Bool.not_true, cond_false, Option.bind_some]
    rw [w64_id (by omega) (by omega)]
    rfl) (by
    simp only [laws_eqOpS.s0]
    rw [decide_eq_false (by omega)]; rfl)
  rw [show ((0 : Int)) = ((0 : Nat) : Int) from rfl, this]
  rfl

theorem reflL_laws_eqOpS (x : List S_Op) (h : x.length ≤ 1048576) : laws_eqOpS.f x x = some true := by
  have hlen : x.length ≤ 1048576 := h
  unfold laws_eqOpS.f
  rw [show ((x.length : Int) != (x.length : Int)) = false from by simp]
  have := loopO_run (step := fun s => laws_eqOpS.s0 x x s) (fun k => (k : Int)) x.length (r := .out ()) (fun k hk => by
    simp only [laws_eqOpS.s0, decide_eq_true (show (k : Int) < (x.length : Int) by omega), cond_true, if_pos (show (0 : Int) ≤ (k : Int) ∧ (k : Int) < (x.length : Int) by omega), Int.toNat_natCast, reflF_laws_eqOp (x.getD k z_Op), bne_self_eq_false, beq_self_eq_true, bs_self, Bool.not_true, cond_false, Option.bind_some]
    rw [w64_id (by omega) (by omega)]
    rfl) (by
    simp only [laws_eqOpS.s0]
    rw [decide_eq_false (by omega)]; rfl)
  rw [show ((0 : Int)) = ((0 : Nat) : Int) from rfl, this]
  rfl

theorem refl_laws_eqTxn (x : S_Txn) (h : (x.Ops.length ≤ 1048576)) : laws_eqTxn.f x x = some true := by
  unfold laws_eqTxn.f
  simp only [refl_laws_eqOpS x.Ops h, bne_self_eq_false, beq_self_eq_true, Bool.not_true, cond_false, Option.bind_some]

theorem reflL_laws_eqTxn (x : S_Txn) (h : (x.Ops.length ≤ 1048576)) : laws_eqTxn.f x x = some true := by
  unfold laws_eqTxn.f
  simp only [reflL_laws_eqOpS x.Ops h, bne_self_eq_false, beq_self_eq_true, bs_self, Bool.not_true, cond_false, Option.bind_some]

theorem refl_laws_eqTxnS (x : List S_Txn) (h : x.length ≤ 1048576 ∧ ∀ z0 : S_Txn, z0 ∈ x → ((z0.Ops.length ≤ 1048576))) : laws_eqTxnS.f x x = some true := by
  have hlen : x.length ≤ 1048576 := h.1
  unfold laws_eqTxnS.f
  rw [show ((x.length : Int) != (x.length : Int)) = false from by simp]
  have := loopO_run (step := fun s => laws_eqTxnS.s0 x x s) (fun k => (k : Int)) x.length (r := .out ()) (fun k hk => by
    simp only [laws_eqTxnS.s0, decide_eq_true (show (k : Int) < (x.length : Int) by omega), cond_true, if_pos (show (0 : Int) ≤ (k : Int) ∧ (k : Int) < (x.length : Int) by omega), Int.toNat_natCast, refl_laws_eqTxn (x.getD k z_Txn) (h.2 _ (getD_mem hk _)), bne_self_eq_false, beq_self_eq_true, Bool.not_true, cond_false, Option.bind_some]
    rw [w64_id (by omega) (by omega)]
    rfl) (by
    simp only [laws_eqTxnS.s0]
    rw [decide_eq_false (by omega)]; rfl)
  rw [show ((0 : Int)) = ((0 : Nat) : Int) from rfl, this]
  rfl

theorem reflL_laws_eqTxnS (x : List S_Txn) (h : x.length ≤ 1048576 ∧ ∀ z0 : S_Txn, z0 ∈ x → ((z0.Ops.length ≤ 1048576))) : laws_eqTxnS.f x x = some true := by
  have hlen : x.length ≤ 1048576 := h.1
  unfold laws_eqTxnS.f
  rw [show ((x.length : Int) != (x.length : Int)) = false from by simp]
  have := loopO_run (step := fun s => laws_eqTxnS.s0 x x s) (fun k => (k : Int)) x.length (r := .out ()) (fun k hk => by
    simp only [laws_eqTxnS.s0, decide_eq_true (show (k : Int) < (x.length : Int) by omega), cond_true, if_pos (show (0 : Int) ≤ (k : Int) ∧ (k : Int) < (x.length : Int) by omega), Int.toNat_natCast, reflL_laws_eqTxn (x.getD k z_Txn) (h.2 _ (getD_mem hk _)), bne_self_eq_false, beq_self_eq_true, bs_self, Bool.not_true, cond_false, Option.bind_some]
    rw [w64_id (by omega) (by omega)]
    rfl) (by
    simp only [laws_eqTxnS.s0]
    rw [decide_eq_false (by omega)]; rfl)
  rw [show ((0 : Int)) = ((0 : Nat) : Int) from rfl, this]
  rfl

theorem refl_laws_eqIntS (x : List Int) (h : x.length ≤ 1048576) : laws_eqIntS.f x x = some true := by
  have hlen : x.length ≤ 1048576 := h
  unfold laws_eqIntS.f
  rw [show ((x.length : Int) != (x.length : Int)) = false from by simp]
  have := loopO_run (step := fun s => laws_eqIntS.s0 x x s) (fun k => (k : Int)) x.length (r := .out ()) (fun k hk => by
    simp only [laws_eqIntS.s0, decide_eq_true (show (k : Int) < (x.length : Int) by omega), cond_true, if_pos (show (0 : Int) ≤ (k : Int) ∧ (k : Int) < (x.length : Int) by omega), Int.toNat_natCast, bne_self_eq_false, beq_self_eq_true, Bool.not_true, cond_false, Option.bind_some]
    rw [w64_id (by omega) (by omega)]
    rfl) (by
    simp only [laws_eqIntS.s0]
    rw [decide_eq_false (by omega)]; rfl)
  rw [show ((0 : Int)) = ((0 : Nat) : Int) from rfl, this]
  rfl

theorem reflL_laws_eqIntS (x : List Int) (h : x.length ≤ 1048576) : laws_eqIntS.f x x = some true := by
  have hlen : x.length ≤ 1048576 := h
  unfold laws_eqIntS.f
  rw [show ((x.length : Int) != (x.length : Int)) = false from by simp]
  have := loopO_run (step := fun s => laws_eqIntS.s0 x x s) (fun k => (k : Int)) x.length (r := .out ()) (fun k hk => by
    simp only [laws_eqIntS.s0, decide_eq_true (show (k : Int) < (x.length : Int) by omega), cond_true, if_pos (show (0 : Int) ≤ (k : Int) ∧ (k : Int) < (x.length : Int) by omega), Int.toNat_natCast, bne_self_eq_false, beq_self_eq_true, bs_self, Bool.not_true, cond_false, Option.bind_some]
    rw [w64_id (by omega) (by omega)]
    rfl) (by
    simp only [laws_eqIntS.s0]
    rw [decide_eq_false (by omega)]; rfl)
  rw [show ((0 : Int)) = ((0 : Nat) : Int) from rfl, this]
  rfl

theorem l01In_eq (x lo hi : Int) : spec_l01In.f x lo hi = some (inB x lo hi) := by
  unfold spec_l01In.f inB; cases decide (lo ≤ x) <;> rfl

def opOK (o : S_Op) : Bool :=
  inB o.Kind 1 6 && inB o.Key 1 9999 && (bif o.Kind == 1 || o.Kind == 3 then o.Value == 0 else bif o.Kind == 6 then inB o.Value 1 4 else inB o.Value 0 999999)
theorem spec_OpOK_eq (o : S_Op) : spec_OpOK.f o = some (opOK o) := by
  unfold spec_OpOK.f opOK
  simp only [l01In_eq, Option.bind_some]
  cases inB o.Kind 1 6 <;> cases inB o.Key 1 9999 <;> cases o.Kind == 1 <;> cases o.Kind == 3 <;> cases o.Kind == 6 <;> rfl

def txnOK (t : S_Txn) : Bool := t.Ops.all opOK && inB t.Ops.length 1 4
theorem l09Txn_eq (t : S_Txn) (h : t.Ops.length ≤ 1073741824) : spec_l09Txn.f t = some (txnOK t) := by
  unfold spec_l09Txn.f
  have := loopO_scan (step := fun s => spec_l09Txn.s0 t s) (fun k => (k : Int)) t.Ops.length (fun k => opOK (t.Ops.getD k z_Op)) (b := false) (t := ()) (fun k hk => by
    simp only [spec_l09Txn.s0, spec_OpOK_eq, Option.bind_some, Int.toNat_natCast, decide_eq_true (show (k : Int) < (t.Ops.length : Int) by omega), cond_true, if_pos (show (0 : Int) ≤ (k : Int) ∧ (k : Int) < (t.Ops.length : Int) by omega)]
    rw [w64_id (by omega) (by omega)]
    cases opOK (t.Ops.getD k z_Op) <;> rfl) (by
    simp only [spec_l09Txn.s0]
    rw [decide_eq_false (by omega)]; rfl)
  rw [show ((0 : Int)) = ((0 : Nat) : Int) from rfl, this, all_range t.Ops z_Op opOK]
  unfold txnOK
  simp only [l01In_eq, Option.bind_some]
  cases t.Ops.all opOK <;> rfl

def batchOK (l : List S_Txn) : Bool := inB l.length 1 2 && l.all txnOK
theorem spec_BatchOK_eq (l : List S_Txn) (h : l.length ≤ 1073741824 ∧ ∀ y, y ∈ l → y.Ops.length ≤ 1073741824) : spec_BatchOK.f l = some (batchOK l) := by
  have hl := h.1
  unfold spec_BatchOK.f batchOK
  by_cases hbig : (l.length : Int) > 4096
  · rw [decide_eq_true hbig]
    have : inB (l.length : Int) 1 2 = false := by
      unfold inB; rw [decide_eq_false (show ¬ (l.length : Int) ≤ 2 by omega), Bool.and_false]
    rw [this]; rfl
  rw [decide_eq_false hbig]
  have := loopO_scan (step := fun s => spec_BatchOK.s0 l s) (fun k => (k : Int)) l.length (fun k => txnOK (l.getD k z_Txn)) (b := false) (t := ()) (fun k hk => by
    simp only [spec_BatchOK.s0, l09Txn_eq _ (h.2 _ (getD_mem hk z_Txn)), Option.bind_some, Int.toNat_natCast, decide_eq_true (show (k : Int) < (l.length : Int) by omega), cond_true, if_pos (show (0 : Int) ≤ (k : Int) ∧ (k : Int) < (l.length : Int) by omega)]
    rw [w64_id (by omega) (by omega)]
    cases txnOK (l.getD k z_Txn) <;> rfl) (by
    simp only [spec_BatchOK.s0]
    rw [decide_eq_false (by omega)]; rfl)
  simp only [l01In_eq, Option.bind_some, cond_false]
  rw [show ((0 : Int)) = ((0 : Nat) : Int) from rfl, this, all_range l z_Txn txnOK]
  cases inB (l.length : Int) 1 2 <;> cases l.all txnOK <;> rfl

theorem l08Leaves_eq (l : List Int) (h : l.length ≤ 1073741824) : spec_l08Leaves.f l = some (l.all (fun x => inB x 0 7)) := by
  unfold spec_l08Leaves.f
  have := loopO_scan (step := fun s => spec_l08Leaves.s0 l s) (fun k => (k : Int)) l.length (fun k => inB (l.getD k 0) 0 7) (b := false) (t := ()) (fun k hk => by
    simp only [spec_l08Leaves.s0, l01In_eq, Option.bind_some, Int.toNat_natCast, decide_eq_true (show (k : Int) < (l.length : Int) by omega), cond_true, if_pos (show (0 : Int) ≤ (k : Int) ∧ (k : Int) < (l.length : Int) by omega)]
    rw [w64_id (by omega) (by omega)]
    cases inB (l.getD k 0) 0 7 <;> rfl) (by
    simp only [spec_l08Leaves.s0]
    rw [decide_eq_false (by omega)]; rfl)
  have t2 : loopO (fun s => spec_l08Leaves.s0 l s) 0 = _ := this
  rw [t2, all_range l 0 (fun x => inB x 0 7)]
  cases l.all (fun x => inB x 0 7) <;> rfl

theorem l02Word_eq (t : ByteArray) (j : Nat) (h : 4 * j + 4 ≤ t.size) (hs : t.size ≤ 1048576) : spec_l02Word.f t ((4 * j : Nat) : Int) = some (wd (bytesOf t) j) := by
  have hB := bytesOf_isB t
  have hl := bytesOf_len t
  unfold spec_l02Word.f
  have w1 : w64 (((4 * j : Nat) : Int) + 1) = ((4 * j + 1 : Nat) : Int) := by rw [w64_id (by omega) (by omega)]; omega
  have w2 : w64 (((4 * j : Nat) : Int) + 2) = ((4 * j + 2 : Nat) : Int) := by rw [w64_id (by omega) (by omega)]; omega
  have w3 : w64 (((4 * j : Nat) : Int) + 3) = ((4 * j + 3 : Nat) : Int) := by rw [w64_id (by omega) (by omega)]; omega
  rw [w1, w2, w3, if_pos (by omega), if_pos (by omega), if_pos (by omega), if_pos (by omega)]
  rw [byteAt_eq t _ (by omega) (by omega), byteAt_eq t _ (by omega) (by omega), byteAt_eq t _ (by omega) (by omega), byteAt_eq t _ (by omega) (by omega)]
  simp only [Int.toNat_natCast]
  obtain ⟨a0, a1⟩ := getD_isB hB (4 * j)
  obtain ⟨b0, b1⟩ := getD_isB hB (4 * j + 1)
  obtain ⟨c0, c1⟩ := getD_isB hB (4 * j + 2)
  obtain ⟨d0, d1⟩ := getD_isB hB (4 * j + 3)
  unfold wd
  generalize (bytesOf t).getD (4 * j) 0 = a at a0 a1 ⊢
  generalize (bytesOf t).getD (4 * j + 1) 0 = b at b0 b1 ⊢
  generalize (bytesOf t).getD (4 * j + 2) 0 = c at c0 c1 ⊢
  generalize (bytesOf t).getD (4 * j + 3) 0 = d at d0 d1 ⊢
  have w (x : Int) (h0 : 0 ≤ x) (h1 : x < 4294967296) : IntKind.wrap .i64 x = x := w64_id (by omega) (by omega)
  have e8 : ((2 : Int) ^ 8) = 256 := by decide
  have e16 : ((2 : Int) ^ 16) = 65536 := by decide
  have e24 : ((2 : Int) ^ 24) = 16777216 := by decide
  rw [w a (by omega) (by omega), w b (by omega) (by omega), w c (by omega) (by omega), w d (by omega) (by omega), e8, e16, e24, w (b * 256) (by omega) (by omega), w (c * 65536) (by omega) (by omega), w (d * 16777216) (by omega) (by omega)]
  rw [or64 256 8 (by decide) (y := b * 256) b a0 (by omega) b0 rfl (by omega)]
  rw [or64 65536 16 (by decide) (y := c * 65536) c (by omega) (by omega) c0 rfl (by omega)]
  rw [or64 16777216 24 (by decide) (y := d * 16777216) d (by omega) (by omega) d0 rfl (by omega)]

theorem l06ToInts_eq (t : ByteArray) (h : t.size ≤ 1048576) : spec_l06ToInts.f t = some (wdsN (bytesOf t) (t.size / 4), (t.size % 4 == 0)) := by
  unfold spec_l06ToInts.f
  have := loopO_run (step := fun s : List Int × Int => spec_l06ToInts.s0 t s.1 s.2) (fun k => (wdsN (bytesOf t) k, ((4 * k : Nat) : Int))) (t.size / 4) (r := .out (wdsN (bytesOf t) (t.size / 4))) (fun k hk => by
    have w4 : w64 (((4 * k : Nat) : Int) + 4) = ((4 * (k + 1) : Nat) : Int) := by rw [w64_id (by omega) (by omega)]; omega
    simp only [spec_l06ToInts.s0, w4, decide_eq_true (show ((4 * (k + 1) : Nat) : Int) ≤ (t.size : Int) by omega), cond_true, l02Word_eq t k (by omega) h, Option.bind_some]
    rw [if_pos (by rw [wdsN_len]; simp; omega), wdsN_succ]) (by
    have w4 : w64 (((4 * (t.size / 4) : Nat) : Int) + 4) = ((4 * (t.size / 4 + 1) : Nat) : Int) := by rw [w64_id (by omega) (by omega)]; omega
    simp only [spec_l06ToInts.s0, w4]
    rw [decide_eq_false (by omega)]; rfl)
  have this2 : loopO (fun s : List Int × Int => spec_l06ToInts.s0 t s.1 s.2) (([] : List Int), 0) = _ := this
  rw [this2]
  simp only [Option.bind_some]
  congr 2
  rw [Int.tmod_eq_emod_of_nonneg (by omega)]
  rw [Bool.eq_iff_iff]
  simp only [beq_iff_eq]
  omega

/-- The words of a text, or none where it has not so many. -/
def wordsOrS (t : ByteArray) (n : Nat) : List Int × Nat := if t.size = 4 * n then (wdsN (bytesOf t) n, 0) else ([], 1)
theorem l12Read_eq (t : ByteArray) (n : Nat) (h : t.size ≤ 1048576) : spec_l12Read.f t (n : Int) = some ⟨(wordsOrS t n).1, ((wordsOrS t n).2 : Int)⟩ := by
  unfold spec_l12Read.f wordsOrS
  rw [l06ToInts_eq t h]
  simp only [Option.bind_some, wdsN_len, bne]
  by_cases hs : t.size = 4 * n
  · rw [if_pos hs, show (t.size % 4 == 0) = true from by simp; omega]
    have : t.size / 4 = n := by omega
    rw [this]
    simp
  · rw [if_neg hs]
    by_cases h4 : t.size % 4 = 0
    · rw [show (t.size % 4 == 0) = true from by simpa using h4, show ((((t.size / 4 : Nat) : Int)) == (n : Int)) = false from by simp; omega]
      rfl
    · rw [show (t.size % 4 == 0) = false from by simpa using h4]
      rfl

theorem s_next (L : List Int) (q : Nat) (hq : q ≤ L.length + 1) (hL : L.length ≤ 1048576) : spec_l12Reader_next.f ⟨L, (q : Int)⟩ = some ((nS L q).1, ((nS L q).2 : Int)) := by
  unfold spec_l12Reader_next.f nS
  by_cases h : q < L.length
  · have w1 : w64 ((q : Int) + 1) = ((q + 1 : Nat) : Int) := by rw [w64_id (by omega) (by omega)]; omega
    have w2 : w64 (((q + 1 : Nat) : Int) - 1) = (q : Int) := by rw [w64_id (by omega) (by omega)]; omega
    simp only [decide_eq_false (show ¬ (q : Int) ≥ (L.length : Int) by omega), cond_false, w1, w2, if_pos (show (0 : Int) ≤ (q : Int) ∧ (q : Int) < (L.length : Int) by omega), Int.toNat_natCast, if_pos h]
  · simp only [decide_eq_true (show (q : Int) ≥ (L.length : Int) by omega), cond_true, if_neg h]

theorem s_count (L : List Int) (q : Nat) (most : Int) (hq : q ≤ L.length + 1) (hL : L.length ≤ 1048576) : spec_l12Reader_count.f ⟨L, (q : Int)⟩ most = some ((cS L most q).1, ((cS L most q).2 : Int)) := by
  unfold spec_l12Reader_count.f cS
  simp only [s_next L q hq hL, l01In_eq, Option.bind_some]
  cases inB (nS L q).1 0 most
  · simp only [Bool.not_false, cond_true, Bool.false_eq_true, if_false]
    rw [w64_id (by omega) (by omega)]; rfl
  · simp

def restS (L : List Int) (q : Nat) : Bool := (L.drop q).all (fun n => n == 0) && decide (q ≤ L.length)
theorem s_rest (L : List Int) (q : Nat) (hq : q ≤ L.length + 1) (hL : L.length ≤ 1048576) : spec_l12Reader_rest.f ⟨L, (q : Int)⟩ = some (restS L q, (q : Int)) := by
  unfold spec_l12Reader_rest.f restS
  have key : ∀ (m q : Nat), q + m = L.length → loopO (fun s => spec_l12Reader_rest.s0 ⟨L, (q : Int)⟩ s) (q : Int) = loopO (fun s => spec_l12Reader_rest.s0 ⟨L, (q : Int)⟩ s) (q : Int) := fun _ _ _ => rfl
  have run : ∀ (a : Int) (m k : Nat), k + m = L.length → loopO (fun s => spec_l12Reader_rest.s0 ⟨L, a⟩ s) (k : Int) = some (bif (L.drop k).all (fun n => n == 0) then .out () else .ret (false, a)) := by
    intro a m
    induction m with
    | zero =>
      intro k hk
      rw [loopO_eq, List.drop_of_length_le (by omega)]
      simp only [spec_l12Reader_rest.s0]
      rw [decide_eq_false (by omega)]; rfl
    | succ m ih =>
      intro k hk
      rw [loopO_eq]
      have hk2 : k < L.length := by omega
      simp only [spec_l12Reader_rest.s0, decide_eq_true (show (k : Int) < (L.length : Int) by omega), cond_true, if_pos (show (0 : Int) ≤ (k : Int) ∧ (k : Int) < (L.length : Int) by omega), Int.toNat_natCast, bne]
      have w1 : w64 ((k : Int) + 1) = ((k + 1 : Nat) : Int) := by rw [w64_id (by omega) (by omega)]; omega
      have hd : L.drop k = L.getD k 0 :: L.drop (k + 1) := by rw [getD_lt hk2]; exact List.drop_eq_getElem_cons hk2
      rw [w1, hd, List.all_cons]
      cases hz : (L.getD k 0 == 0)
      · rfl
      · simp only [Bool.not_true, cond_false, Bool.true_and]
        exact ih (k + 1) (by omega)
  by_cases h : q ≤ L.length
  · rw [run (q : Int) (L.length - q) q (by omega), decide_eq_true (show (q : Int) ≤ (L.length : Int) by omega), decide_eq_true h]
    cases (L.drop q).all (fun n => n == 0) <;> rfl
  · rw [loopO_eq]
    simp only [spec_l12Reader_rest.s0]
    rw [decide_eq_false (show ¬ (q : Int) < (L.length : Int) by omega), decide_eq_false (show ¬ (q : Int) ≤ (L.length : Int) by omega), decide_eq_false h]
    simp

theorem s_draws (y3 : S_l12Reader) (L : List Int) (hy : y3.list = L) (q : Nat) (hq : q ≤ L.length + 1) (hL : L.length ≤ 1048576) : loopO (fun s : List Int × Int × Int => spec_l12ToEntry.s0 y3 s.1 s.2.1 s.2.2) (([] : List Int), 0, (q : Int)) = some (.out ((rep (nS L) 40 q).1, ((rep (nS L) 40 q).2 : Int))) := by
  have := loopO_run (step := fun s : List Int × Int × Int => spec_l12ToEntry.s0 y3 s.1 s.2.1 s.2.2) (fun k => ((rep (nS L) k q).1, (k : Int), ((rep (nS L) k q).2 : Int))) 40
    (r := .out ((rep (nS L) 40 q).1, ((rep (nS L) 40 q).2 : Int))) (fun k hk => by
    have h1 := rep_le (f := nS L) (fun q hq => nS_le hq) k q hq
    have hl := rep_len (nS L) k q
    generalize hr : rep (nS L) k q = r at h1 hl
    obtain ⟨u, a⟩ := r
    simp only at h1 hl
    simp only [spec_l12ToEntry.s0, decide_eq_true (show (k : Int) < 40 by omega), cond_true, hy, s_next L a h1 hL, Option.bind_some]
    rw [if_pos (by simp; omega), w64_id (by omega) (by omega)]
    simp only [rep, hr]
    rfl) (by
    simp only [spec_l12ToEntry.s0]
    rw [decide_eq_false (by omega)]; rfl)
  exact this
theorem s_ops (y3 : S_l12Reader) (L : List Int) (hy : y3.list = L) (n : Int) (q : Nat) (hn : 0 ≤ n ∧ n ≤ 1000) (hq : q ≤ L.length + 1) (hL : L.length ≤ 1048576) : loopO (fun s : Int × Int × List S_Op => spec_l12ToEntry.s2 y3 s.1 s.2.1 s.2.2) (n, (q : Int), ([] : List S_Op)) = some (.out (((rep (opS L) n.toNat q).2 : Int), (rep (opS L) n.toNat q).1)) := by
  have := loopO_run (step := fun s : Int × Int × List S_Op => spec_l12ToEntry.s2 y3 s.1 s.2.1 s.2.2) (fun k => (n - (k : Int), ((rep (opS L) k q).2 : Int), (rep (opS L) k q).1)) n.toNat
    (r := .out (((rep (opS L) n.toNat q).2 : Int), (rep (opS L) n.toNat q).1)) (fun k hk => by
    have h1 := rep_le (f := opS L) (fun q hq => opS_le hq) k q hq
    have hl := rep_len (opS L) k q
    generalize hr : rep (opS L) k q = r at h1 hl
    obtain ⟨u, a⟩ := r
    simp only at h1 hl
    have h2 := nS_le h1
    have h3 := nS_le h2
    simp only [spec_l12ToEntry.s2, decide_eq_true (show n - (k : Int) > 0 by omega), cond_true, hy, s_next L a h1 hL, s_next L _ h2 hL, s_next L _ h3 hL, Option.bind_some]
    rw [if_pos (by simp; omega), w64_id (by omega) (by omega)]
    simp only [rep, hr]
    congr 3
    omega) (by
    simp only [spec_l12ToEntry.s2]
    rw [decide_eq_false (by omega)]; rfl)
  have e0 : n - ((0 : Nat) : Int) = n := by omega
  have h3 := this
  simp only [rep, e0] at h3
  exact h3
theorem s_txns (y3 : S_l12Reader) (L : List Int) (hy : y3.list = L) (n : Int) (q : Nat) (hn : 0 ≤ n ∧ n ≤ 1000) (hq : q ≤ L.length + 1) (hL : L.length ≤ 1048576) : loopO (fun s : List S_Txn × Int × Int => spec_l12ToEntry.s1 y3 s.1 s.2.1 s.2.2) (([] : List S_Txn), n, (q : Int)) = some (.out ((rep (txS L) n.toNat q).1, ((rep (txS L) n.toNat q).2 : Int))) := by
  have := loopO_run (step := fun s : List S_Txn × Int × Int => spec_l12ToEntry.s1 y3 s.1 s.2.1 s.2.2) (fun k => ((rep (txS L) k q).1, n - (k : Int), ((rep (txS L) k q).2 : Int))) n.toNat
    (r := .out ((rep (txS L) n.toNat q).1, ((rep (txS L) n.toNat q).2 : Int))) (fun k hk => by
    have h1 := rep_le (f := txS L) (fun q hq => txS_le hq) k q hq
    have hl := rep_len (txS L) k q
    generalize hr : rep (txS L) k q = r at h1 hl
    obtain ⟨u, a⟩ := r
    simp only at h1 hl
    have hcc := cS_cnt L 4 (by decide) a
    simp only [spec_l12ToEntry.s1, decide_eq_true (show n - (k : Int) > 0 by omega), cond_true, hy, s_count L a 4 h1 hL, Option.bind_some, s_ops y3 L hy (cS L 4 a).1 (cS L 4 a).2 (by omega) (cS_le h1) hL]
    rw [if_pos (by simp; omega), w64_id (by omega) (by omega)]
    simp only [rep, hr]
    congr 3
    first | omega | exact ⟨by omega, rfl⟩ | (simp only [Prod.mk.injEq]; exact ⟨by omega, rfl⟩)) (by
    simp only [spec_l12ToEntry.s1]
    rw [decide_eq_false (by omega)]; rfl)
  have e0 : n - ((0 : Nat) : Int) = n := by omega
  have h3 := this
  simp only [rep, e0] at h3
  exact h3
theorem s_entry (t : ByteArray) (h : t.size ≤ 1048576) (L : List Int) (q : Nat) (hw : wordsOrS t 68 = (L, q)) (hL : L.length ≤ 1048576) (hq : q ≤ L.length + 1) : spec_l12ToEntry.f t = some ((enS L q).1.2, (enS L q).1.1, restS L (enS L q).2 && ((enS L q).1.1.all (fun x => inB x 0 7) && batchOK (enS L q).1.2)) := by
  have hR := l12Read_eq t 68 h
  rw [hw] at hR
  unfold spec_l12ToEntry.f
  have hR' : spec_l12Read.f t 68 = _ := hR
  rw [hR']
  simp only [Option.bind_some, s_draws ⟨L, (q : Int)⟩ L rfl q hq hL]
  have h1 := rep_le (f := nS L) (fun q hq => nS_le hq) 40 q hq
  have hcc := cS_cnt L 2 (by decide) (rep (nS L) 40 q).2
  simp only [s_count L _ 2 h1 hL, Option.bind_some, s_txns ⟨L, (q : Int)⟩ L rfl _ _ (show 0 ≤ (cS L 2 (rep (nS L) 40 q).2).1 ∧ (cS L 2 (rep (nS L) 40 q).2).1 ≤ 1000 by omega) (cS_le h1) hL]
  have h2 := rep_le (f := txS L) (fun q hq => txS_le hq) (cS L 2 (rep (nS L) 40 q).2).1.toNat _ (cS_le (most := 2) h1)
  have hl := rep_len (txS L) (cS L 2 (rep (nS L) 40 q).2).1.toNat (cS L 2 (rep (nS L) 40 q).2).2
  have hl40 := rep_len (nS L) 40 q
  have hb := spec_BatchOK_eq (rep (txS L) (cS L 2 (rep (nS L) 40 q).2).1.toNat (cS L 2 (rep (nS L) 40 q).2).2).1 ⟨by rw [hl]; omega, fun y hy => by
    have := rep_all (txS L) (fun y => y.Ops.length ≤ 4) (txS_len L) _ _ y hy
    omega⟩
  simp only [s_rest L _ h2 hL, l08Leaves_eq _ (show (rep (nS L) 40 q).1.length ≤ 1073741824 by rw [hl40]; omega), hb]
  unfold enS
  simp only []
  cases restS L (rep (txS L) (cS L 2 (rep (nS L) 40 q).2).1.toNat (cS L 2 (rep (nS L) 40 q).2).2).2
  · rfl
  · simp only [Option.bind_some, cond_true, Bool.true_and]
    cases (rep (nS L) 40 q).1.all (fun x => inB x 0 7) <;> rfl

theorem idx_slices_IndexFunc_string_string (l : List ByteArray) (q : ByteArray → Option Bool) (p : ByteArray → Bool) (h : l.length ≤ 1073741824) (hq : ∀ x, x ∈ l → q x = some (p x)) : slices_IndexFunc_string_string.f l q = some (idxOf l ByteArray.empty p) := by
  unfold slices_IndexFunc_string_string.f idxOf
  have := loopO_find (step := fun s => slices_IndexFunc_string_string.s0 l q s) (fun k => (k : Int)) l.length (fun k => p (l.getD k ByteArray.empty)) (fun k => (k : Int)) (t := ()) (fun k hk => by
    simp only [slices_IndexFunc_string_string.s0, decide_eq_true (show (k : Int) < (l.length : Int) by omega), cond_true, if_pos (show (0 : Int) ≤ (k : Int) ∧ (k : Int) < (l.length : Int) by omega), Int.toNat_natCast, hq _ (getD_mem hk _), Option.bind_some]
    rw [w64_id (by omega) (by omega)]
    cases p (l.getD k ByteArray.empty) <;> rfl) (by
    simp only [slices_IndexFunc_string_string.s0]
    rw [decide_eq_false (by omega)]; rfl)
  rw [show ((0 : Int)) = ((0 : Nat) : Int) from rfl, this]
  cases (List.range l.length).find? (fun k => p (l.getD k ByteArray.empty)) <;> rfl

theorem any_slices_ContainsFunc_string_string (l : List ByteArray) (q : ByteArray → Option Bool) (p : ByteArray → Bool) (h : l.length ≤ 1073741824) (hq : ∀ x, x ∈ l → q x = some (p x)) : slices_ContainsFunc_string_string.f l q = some (l.any p) := by
  unfold slices_ContainsFunc_string_string.f
  rw [idx_slices_IndexFunc_string_string l q p h hq, ← idxOf_any l ByteArray.empty p]
  rfl

theorem all_impl_areAll_string (l : List ByteArray) (q : ByteArray → Option Bool) (p : ByteArray → Bool) (h : l.length ≤ 1073741824) (hq : ∀ x, x ∈ l → q x = some (p x)) : impl_areAll_string.f l q = some (l.all p) := by
  unfold impl_areAll_string.f
  rw [any_slices_ContainsFunc_string_string l _ (fun x => !p x) h (fun x hx => by unfold impl_areAll_string__c1.f; rw [hq x hx]; rfl)]
  simp only [Option.bind_some, List.any_eq_not_all_not, Bool.not_not]

def shortT (t : ByteArray) : Bool := decide ((t.size : Int) ≤ 65536)
theorem areShort_eq (l : List ByteArray) (h : l.length ≤ 1073741824) : impl_areShort.f l = some (l.all shortT) := by
  unfold impl_areShort.f
  rw [all_impl_areAll_string l impl_areShort_c1.f shortT h (fun x _ => rfl)]; rfl
theorem areShort1 (t : ByteArray) : impl_areShort.f [t] = some (shortT t) := by
  rw [areShort_eq _ (by simp)]; simp

theorem within_eq (x lo hi : Int) : impl_within.f x lo hi = some (inB x lo hi) := by
  unfold impl_within.f inB; cases decide (lo ≤ x) <;> rfl

theorem idx_slices_IndexFunc_impl_Txn_impl_Txn (l : List S_Txn) (q : S_Txn → Option Bool) (p : S_Txn → Bool) (h : l.length ≤ 1073741824) (hq : ∀ x, x ∈ l → q x = some (p x)) : slices_IndexFunc_impl_Txn_impl_Txn.f l q = some (idxOf l z_Txn p) := by
  unfold slices_IndexFunc_impl_Txn_impl_Txn.f idxOf
  have := loopO_find (step := fun s => slices_IndexFunc_impl_Txn_impl_Txn.s0 l q s) (fun k => (k : Int)) l.length (fun k => p (l.getD k z_Txn)) (fun k => (k : Int)) (t := ()) (fun k hk => by
    simp only [slices_IndexFunc_impl_Txn_impl_Txn.s0, decide_eq_true (show (k : Int) < (l.length : Int) by omega), cond_true, if_pos (show (0 : Int) ≤ (k : Int) ∧ (k : Int) < (l.length : Int) by omega), Int.toNat_natCast, hq _ (getD_mem hk _), Option.bind_some]
    rw [w64_id (by omega) (by omega)]
    cases p (l.getD k z_Txn) <;> rfl) (by
    simp only [slices_IndexFunc_impl_Txn_impl_Txn.s0]
    rw [decide_eq_false (by omega)]; rfl)
  rw [show ((0 : Int)) = ((0 : Nat) : Int) from rfl, this]
  cases (List.range l.length).find? (fun k => p (l.getD k z_Txn)) <;> rfl

theorem any_slices_ContainsFunc_impl_Txn_impl_Txn (l : List S_Txn) (q : S_Txn → Option Bool) (p : S_Txn → Bool) (h : l.length ≤ 1073741824) (hq : ∀ x, x ∈ l → q x = some (p x)) : slices_ContainsFunc_impl_Txn_impl_Txn.f l q = some (l.any p) := by
  unfold slices_ContainsFunc_impl_Txn_impl_Txn.f
  rw [idx_slices_IndexFunc_impl_Txn_impl_Txn l q p h hq, ← idxOf_any l z_Txn p]
  rfl

theorem all_impl_areAll_impl_Txn (l : List S_Txn) (q : S_Txn → Option Bool) (p : S_Txn → Bool) (h : l.length ≤ 1073741824) (hq : ∀ x, x ∈ l → q x = some (p x)) : impl_areAll_impl_Txn.f l q = some (l.all p) := by
  unfold impl_areAll_impl_Txn.f
  rw [any_slices_ContainsFunc_impl_Txn_impl_Txn l _ (fun x => !p x) h (fun x hx => by unfold impl_areAll_impl_Txn__c1.f; rw [hq x hx]; rfl)]
  simp only [Option.bind_some, List.any_eq_not_all_not, Bool.not_not]

theorem idx_slices_IndexFunc_impl_Op_impl_Op (l : List S_Op) (q : S_Op → Option Bool) (p : S_Op → Bool) (h : l.length ≤ 1073741824) (hq : ∀ x, x ∈ l → q x = some (p x)) : slices_IndexFunc_impl_Op_impl_Op.f l q = some (idxOf l z_Op p) := by
  unfold slices_IndexFunc_impl_Op_impl_Op.f idxOf
  have := loopO_find (step := fun s => slices_IndexFunc_impl_Op_impl_Op.s0 l q s) (fun k => (k : Int)) l.length (fun k => p (l.getD k z_Op)) (fun k => (k : Int)) (t := ()) (fun k hk => by
    simp only [slices_IndexFunc_impl_Op_impl_Op.s0, decide_eq_true (show (k : Int) < (l.length : Int) by omega), cond_true, if_pos (show (0 : Int) ≤ (k : Int) ∧ (k : Int) < (l.length : Int) by omega), Int.toNat_natCast, hq _ (getD_mem hk _), Option.bind_some]
    rw [w64_id (by omega) (by omega)]
    cases p (l.getD k z_Op) <;> rfl) (by
    simp only [slices_IndexFunc_impl_Op_impl_Op.s0]
    rw [decide_eq_false (by omega)]; rfl)
  rw [show ((0 : Int)) = ((0 : Nat) : Int) from rfl, this]
  cases (List.range l.length).find? (fun k => p (l.getD k z_Op)) <;> rfl

theorem any_slices_ContainsFunc_impl_Op_impl_Op (l : List S_Op) (q : S_Op → Option Bool) (p : S_Op → Bool) (h : l.length ≤ 1073741824) (hq : ∀ x, x ∈ l → q x = some (p x)) : slices_ContainsFunc_impl_Op_impl_Op.f l q = some (l.any p) := by
  unfold slices_ContainsFunc_impl_Op_impl_Op.f
  rw [idx_slices_IndexFunc_impl_Op_impl_Op l q p h hq, ← idxOf_any l z_Op p]
  rfl

theorem all_impl_areAll_impl_Op (l : List S_Op) (q : S_Op → Option Bool) (p : S_Op → Bool) (h : l.length ≤ 1073741824) (hq : ∀ x, x ∈ l → q x = some (p x)) : impl_areAll_impl_Op.f l q = some (l.all p) := by
  unfold impl_areAll_impl_Op.f
  rw [any_slices_ContainsFunc_impl_Op_impl_Op l _ (fun x => !p x) h (fun x hx => by unfold impl_areAll_impl_Op__c1.f; rw [hq x hx]; rfl)]
  simp only [Option.bind_some, List.any_eq_not_all_not, Bool.not_not]

theorem isKey_eq (x : Int) : impl_isKey.f x = some (inB x 1 9999) := by unfold impl_isKey.f; rw [within_eq]; rfl

theorem isValue_eq (x : Int) : impl_isValue.f x = some (inB x 0 999999) := by unfold impl_isValue.f; rw [within_eq]; rfl

theorem impl_OpOK_eq (o : S_Op) : impl_OpOK.f o = some (opOK o) := by
  unfold impl_OpOK.f impl_isBare.f opOK
  simp only [within_eq, isKey_eq, isValue_eq, Option.bind_some]
  cases inB o.Kind 1 6 <;> cases inB o.Key 1 9999 <;> cases o.Kind == 1 <;> cases o.Kind == 3 <;> cases o.Kind == 6 <;> rfl

theorem isTxn_eq (t : S_Txn) (h : t.Ops.length ≤ 1073741824) : impl_isTxn.f t = some (txnOK t) := by
  unfold impl_isTxn.f txnOK
  rw [all_impl_areAll_impl_Op t.Ops _ opOK h (fun x _ => impl_OpOK_eq x)]
  simp only [within_eq, Option.bind_some]
  cases inB (t.Ops.length : Int) 1 4 <;> cases t.Ops.all opOK <;> rfl

theorem impl_BatchOK_eq (l : List S_Txn) (h : l.length ≤ 1073741824 ∧ ∀ y, y ∈ l → y.Ops.length ≤ 1073741824) : impl_BatchOK.f l = some (batchOK l) := by
  unfold impl_BatchOK.f batchOK
  rw [all_impl_areAll_impl_Txn l _ txnOK h.1 (fun x hx => isTxn_eq x (h.2 x hx))]
  simp only [within_eq, Option.bind_some]
  cases inB (l.length : Int) 1 2 <;> cases l.all txnOK <;> rfl

theorem littleWord_eq (t : ByteArray) (h : 4 ≤ t.size) : impl_littleWord.f t = some (wd (bytesOf t) 0) := by
  have hB := bytesOf_isB t
  have hl := bytesOf_len t
  unfold impl_littleWord.f
  rw [if_pos (by omega), if_pos (by omega), if_pos (by omega), if_pos (by omega)]
  rw [byteAt_eq t 0 (by omega) (by omega), byteAt_eq t 1 (by omega) (by omega), byteAt_eq t 2 (by omega) (by omega), byteAt_eq t 3 (by omega) (by omega)]
  obtain ⟨a0, a1⟩ := getD_isB hB (Int.toNat 0)
  obtain ⟨b0, b1⟩ := getD_isB hB (Int.toNat 1)
  obtain ⟨c0, c1⟩ := getD_isB hB (Int.toNat 2)
  obtain ⟨d0, d1⟩ := getD_isB hB (Int.toNat 3)
  unfold wd
  simp only [Nat.mul_zero, Nat.zero_add]
  show some _ = some ((bytesOf t).getD (Int.toNat 0) 0 + (bytesOf t).getD (Int.toNat 1) 0 * 256 + (bytesOf t).getD (Int.toNat 2) 0 * 65536 + (bytesOf t).getD (Int.toNat 3) 0 * 16777216)
  generalize (bytesOf t).getD (Int.toNat 0) 0 = a at a0 a1 ⊢
  generalize (bytesOf t).getD (Int.toNat 1) 0 = b at b0 b1 ⊢
  generalize (bytesOf t).getD (Int.toNat 2) 0 = c at c0 c1 ⊢
  generalize (bytesOf t).getD (Int.toNat 3) 0 = d at d0 d1 ⊢
  have w (x : Int) (h0 : 0 ≤ x) (h1 : x < 4294967296) : IntKind.wrap .u32 x = x := by
    show x % 4294967296 = x; omega
  have e8 : ((2 : Int) ^ 8) = 256 := by decide
  have e16 : ((2 : Int) ^ 16) = 65536 := by decide
  have e24 : ((2 : Int) ^ 24) = 16777216 := by decide
  rw [w a (by omega) (by omega), w b (by omega) (by omega), w c (by omega) (by omega), w d (by omega) (by omega), e8, e16, e24, w (b * 256) (by omega) (by omega), w (c * 65536) (by omega) (by omega), w (d * 16777216) (by omega) (by omega)]
  rw [or32 256 8 (by decide) (y := b * 256) b a0 (by omega) b0 rfl (by omega)]
  rw [or32 65536 16 (by decide) (y := c * 65536) c (by omega) (by omega) c0 rfl (by omega)]
  rw [or32 16777216 24 (by decide) (y := d * 16777216) d (by omega) (by omega) d0 rfl (by omega)]

theorem textInts_eq (t : ByteArray) (n : Nat) (h : t.size = 4 * n) (hn : n ≤ 262144) : impl_textInts.f t = some (wdsN (bytesOf t) n) := by
  have hl := bytesOf_len t
  have hB := bytesOf_isB t
  unfold impl_textInts.f
  have := loopO_run (step := fun s : List Int × Int => impl_textInts.s0 t s.1 s.2) (fun k => (wdsN (bytesOf t) k, ((4 * k : Nat) : Int))) n (r := .out (wdsN (bytesOf t) n)) (fun k hk => by
    have hx : (t.extract (4 * k) t.size).size = t.size - 4 * k := by simp
    have hw := littleWord_eq (t.extract (4 * k) t.size) (by omega)
    have hwd : wd (bytesOf (t.extract (4 * k) t.size)) 0 = wd (bytesOf t) k := by
      rw [bytesOf_extract, List.take_of_length_le (by rw [List.length_drop, hl]; omega)]
      unfold wd
      simp only [List.getD_eq_getElem?_getD, List.getElem?_drop, Nat.mul_zero, Nat.zero_add, Nat.add_zero]
    rw [hwd] at hw
    have hr : IntKind.wrap .i64 (wd (bytesOf t) k) = wd (bytesOf t) k := by
      obtain ⟨a0, a1⟩ := getD_isB hB (4 * k)
      obtain ⟨b0, b1⟩ := getD_isB hB (4 * k + 1)
      obtain ⟨c0, c1⟩ := getD_isB hB (4 * k + 2)
      obtain ⟨d0, d1⟩ := getD_isB hB (4 * k + 3)
      unfold wd
      exact w64_id (by omega) (by omega)
    simp only [impl_textInts.s0, decide_eq_true (show ((4 * k : Nat) : Int) < (t.size : Int) by omega), cond_true, if_pos (show (0 : Int) ≤ ((4 * k : Nat) : Int) ∧ ((4 * k : Nat) : Int) ≤ (t.size : Int) by omega), Int.toNat_natCast, hw, Option.bind_some, hr]
    rw [if_pos (by rw [wdsN_len]; simp; omega), w64_id (by omega) (by omega), wdsN_succ]
    congr 3) (by
    simp only [impl_textInts.s0]
    rw [decide_eq_false (by omega)]; rfl)
  have this2 : loopO (fun s : List Int × Int => impl_textInts.s0 t s.1 s.2) (([] : List Int), 0) = _ := this
  rw [this2]; rfl

theorem idx_slices_IndexFunc_int_int (l : List Int) (q : Int → Option Bool) (p : Int → Bool) (h : l.length ≤ 1073741824) (hq : ∀ x, x ∈ l → q x = some (p x)) : slices_IndexFunc_int_int.f l q = some (idxOf l 0 p) := by
  unfold slices_IndexFunc_int_int.f idxOf
  have := loopO_find (step := fun s => slices_IndexFunc_int_int.s0 l q s) (fun k => (k : Int)) l.length (fun k => p (l.getD k 0)) (fun k => (k : Int)) (t := ()) (fun k hk => by
    simp only [slices_IndexFunc_int_int.s0, decide_eq_true (show (k : Int) < (l.length : Int) by omega), cond_true, if_pos (show (0 : Int) ≤ (k : Int) ∧ (k : Int) < (l.length : Int) by omega), Int.toNat_natCast, hq _ (getD_mem hk _), Option.bind_some]
    rw [w64_id (by omega) (by omega)]
    cases p (l.getD k 0) <;> rfl) (by
    simp only [slices_IndexFunc_int_int.s0]
    rw [decide_eq_false (by omega)]; rfl)
  rw [show ((0 : Int)) = ((0 : Nat) : Int) from rfl, this]
  cases (List.range l.length).find? (fun k => p (l.getD k 0)) <;> rfl

theorem any_slices_ContainsFunc_int_int (l : List Int) (q : Int → Option Bool) (p : Int → Bool) (h : l.length ≤ 1073741824) (hq : ∀ x, x ∈ l → q x = some (p x)) : slices_ContainsFunc_int_int.f l q = some (l.any p) := by
  unfold slices_ContainsFunc_int_int.f
  rw [idx_slices_IndexFunc_int_int l q p h hq, ← idxOf_any l 0 p]
  rfl

theorem all_impl_areAll_int (l : List Int) (q : Int → Option Bool) (p : Int → Bool) (h : l.length ≤ 1073741824) (hq : ∀ x, x ∈ l → q x = some (p x)) : impl_areAll_int.f l q = some (l.all p) := by
  unfold impl_areAll_int.f
  rw [any_slices_ContainsFunc_int_int l _ (fun x => !p x) h (fun x hx => by unfold impl_areAll_int__c1.f; rw [hq x hx]; rfl)]
  simp only [Option.bind_some, List.any_eq_not_all_not, Bool.not_not]

theorem i_ends (L : List Int) (p : Nat) (b : Bool) (hp : p ≤ L.length) (hL : L.length ≤ 1048576) : impl_reader_ends.f ⟨L, (p : Int), b⟩ = some (!b && (L.drop p).all (fun n => n == 0), (p : Int), b) := by
  unfold impl_reader_ends.f
  cases b
  · simp only [Bool.not_false, cond_true, if_pos (show (0 : Int) ≤ (p : Int) ∧ (p : Int) ≤ (L.length : Int) by omega), Int.toNat_natCast]
    rw [all_impl_areAll_int (L.drop p) impl_reader_ends_c1.f (fun n => n == 0) (by simp; omega) (fun x _ => rfl)]
    simp
  · simp

theorem i_next (L : List Int) (p : Nat) (b : Bool) (lo hi : Int) (hp : p ≤ L.length) (hL : L.length ≤ 1048576) : impl_reader_next.f ⟨L, (p : Int), b⟩ lo hi = some ((nI L lo hi (p, b)).1, ((nI L lo hi (p, b)).2.1 : Int), (nI L lo hi (p, b)).2.2) := by
  unfold impl_reader_next.f nI
  cases b
  · simp only [cond_false, Bool.false_eq_true, if_false]
    by_cases h : p < L.length
    · have e1 : ((p : Int) == (L.length : Int)) = false := by simp; omega
      have w1 : w64 ((p : Int) + 1) = ((p + 1 : Nat) : Int) := by rw [w64_id (by omega) (by omega)]; omega
      have w2 : w64 (((p + 1 : Nat) : Int) - 1) = (p : Int) := by rw [w64_id (by omega) (by omega)]; omega
      simp only [e1, cond_false, if_pos (show (0 : Int) ≤ (p : Int) ∧ (p : Int) < (L.length : Int) by omega), Int.toNat_natCast, within_eq, Option.bind_some, w1, w2]
      cases hi' : inB (L.getD p 0) lo hi
      · simp
      · simp [h]
    · have e1 : ((p : Int) == (L.length : Int)) = true := by simp; omega
      have hn : ¬ (p < L.length ∧ inB (L.getD p 0) lo hi = true) := fun q => h q.1
      simp only [e1, cond_true, Option.bind_some, if_neg hn]
  · simp only [cond_true, Option.bind_some, if_true]

theorem i_several (L : List Int) (p : Nat) (b : Bool) (n : Nat) (lo hi : Int) (hlo : 0 ≤ lo) (hp : p ≤ L.length) (hL : L.length ≤ 1048576) (hn : n ≤ 1000000) : impl_reader_several.f ⟨L, (p : Int), b⟩ (n : Int) lo hi = some ((rep (nI L lo hi) n (p, b)).1, ((rep (nI L lo hi) n (p, b)).2.1 : Int), (rep (nI L lo hi) n (p, b)).2.2) := by
  unfold impl_reader_several.f
  have := loopO_run (step := fun s : List Int × Int × Int × Bool => impl_reader_several.s0 ⟨L, (p : Int), b⟩ (n : Int) lo hi s.1 s.2.1 s.2.2.1 s.2.2.2) (fun k => ((rep (nI L lo hi) k (p, b)).1, (k : Int), ((rep (nI L lo hi) k (p, b)).2.1 : Int), (rep (nI L lo hi) k (p, b)).2.2)) n
    (r := .out ((rep (nI L lo hi) n (p, b)).1, ((rep (nI L lo hi) n (p, b)).2.1 : Int), (rep (nI L lo hi) n (p, b)).2.2)) (fun k hk => by
    have h1 := ((RPair.base L lo hi hlo).reps k).le (p, b) hp
    have hl := rep_len (nI L lo hi) k (p, b)
    generalize hr : rep (nI L lo hi) k (p, b) = r at h1 hl
    obtain ⟨u, a, bb⟩ := r
    simp only at h1 hl
    simp only [impl_reader_several.s0, decide_eq_true (show (k : Int) < (n : Int) by omega), cond_true, i_next L a bb lo hi h1 hL, Option.bind_some]
    rw [if_pos (by simp; omega), w64_id (by omega) (by omega)]
    simp only [rep, hr]
    rfl) (by
    simp only [impl_reader_several.s0]
    rw [decide_eq_false (by omega)]; rfl)
  have this2 : loopO (fun s : List Int × Int × Int × Bool => impl_reader_several.s0 ⟨L, (p : Int), b⟩ (n : Int) lo hi s.1 s.2.1 s.2.2.1 s.2.2.2) (([] : List Int), 0, (p : Int), b) = _ := this
  rw [this2]; rfl

theorem i_ops (y3 : S_reader) (L : List Int) (hy : y3.list = L) (c : Int × Int × Bool) (p : Nat) (b : Bool) (hc : 0 ≤ c.1 ∧ c.1 ≤ 1000) (hp : p ≤ L.length) (hL : L.length ≤ 1048576) : loopO (fun s : Int × Int × Bool × List S_Op => impl_readEntry.s1 y3 c s.1 s.2.1 s.2.2.1 s.2.2.2) (0, (p : Int), b, ([] : List S_Op)) = some (.out (((rep (opI L) c.1.toNat (p, b)).2.1 : Int), (rep (opI L) c.1.toNat (p, b)).2.2, (rep (opI L) c.1.toNat (p, b)).1)) := by
  have := loopO_run (step := fun s : Int × Int × Bool × List S_Op => impl_readEntry.s1 y3 c s.1 s.2.1 s.2.2.1 s.2.2.2) (fun k => ((k : Int), ((rep (opI L) k (p, b)).2.1 : Int), (rep (opI L) k (p, b)).2.2, (rep (opI L) k (p, b)).1)) c.1.toNat
    (r := .out (((rep (opI L) c.1.toNat (p, b)).2.1 : Int), (rep (opI L) c.1.toNat (p, b)).2.2, (rep (opI L) c.1.toNat (p, b)).1)) (fun k hk => by
    have h1 := ((op_pair L).reps k).le (p, b) hp
    have hl := rep_len (opI L) k (p, b)
    generalize hr : rep (opI L) k (p, b) = r at h1 hl
    obtain ⟨u, a, bb⟩ := r
    simp only at h1 hl
    have h2 := (RPair.base L 1 6 (by decide)).le (a, bb) h1
    have h3 := (RPair.base L 1 9999 (by decide)).le _ h2
    have e1 := i_next L a bb 1 6 h1 hL
    have e2 := i_next L (nI L 1 6 (a, bb)).2.1 (nI L 1 6 (a, bb)).2.2 1 9999 h2 hL
    have e3 := i_next L (nI L 1 9999 (nI L 1 6 (a, bb)).2).2.1 (nI L 1 9999 (nI L 1 6 (a, bb)).2).2.2 0 999999 h3 hL
    simp only [impl_readEntry.s1, hy, decide_eq_true (show (k : Int) < c.1 by omega), cond_true, e1, e2, e3, Option.bind_some]
    rw [if_pos (by simp; omega), w64_id (by omega) (by omega)]
    simp only [rep, hr]
    rfl) (by
    simp only [impl_readEntry.s1]
    rw [decide_eq_false (by omega)]; rfl)
  exact this
theorem i_txns (y3 : S_reader) (L : List Int) (hy : y3.list = L) (c : Int × Int × Bool) (p : Nat) (b : Bool) (hc : 0 ≤ c.1 ∧ c.1 ≤ 1000) (hp : p ≤ L.length) (hL : L.length ≤ 1048576) : loopO (fun s : List S_Txn × Int × Int × Bool => impl_readEntry.s0 y3 c s.1 s.2.1 s.2.2.1 s.2.2.2) (([] : List S_Txn), 0, (p : Int), b) = some (.out ((rep (txI L) c.1.toNat (p, b)).1, ((rep (txI L) c.1.toNat (p, b)).2.1 : Int), (rep (txI L) c.1.toNat (p, b)).2.2)) := by
  have := loopO_run (step := fun s : List S_Txn × Int × Int × Bool => impl_readEntry.s0 y3 c s.1 s.2.1 s.2.2.1 s.2.2.2) (fun k => ((rep (txI L) k (p, b)).1, (k : Int), ((rep (txI L) k (p, b)).2.1 : Int), (rep (txI L) k (p, b)).2.2)) c.1.toNat
    (r := .out ((rep (txI L) c.1.toNat (p, b)).1, ((rep (txI L) c.1.toNat (p, b)).2.1 : Int), (rep (txI L) c.1.toNat (p, b)).2.2)) (fun k hk => by
    have h1 := ((tx_pair L).reps k).le (p, b) hp
    have hl := rep_len (txI L) k (p, b)
    generalize hr : rep (txI L) k (p, b) = r at h1 hl
    obtain ⟨u, a, bb⟩ := r
    simp only at h1 hl
    have h2 := (RPair.base L 1 4 (by decide)).le (a, bb) h1
    have hcc := nI_cnt L 4 (by decide) (a, bb) 1 (by decide)
    have e1 := i_next L a bb 1 4 h1 hL
    have e2 := i_ops y3 L hy ((nI L 1 4 (a, bb)).1, ((nI L 1 4 (a, bb)).2.1 : Int), (nI L 1 4 (a, bb)).2.2) (nI L 1 4 (a, bb)).2.1 (nI L 1 4 (a, bb)).2.2 (by simp only; omega) h2 hL
    simp only [impl_readEntry.s0, decide_eq_true (show (k : Int) < c.1 by omega), cond_true, hy, e1, Option.bind_some]
    simp only at e2
    rw [e2]
    simp only [Option.bind_some]
    rw [if_pos (by simp; omega), w64_id (by omega) (by omega)]
    simp only [rep, hr]
    rfl) (by
    simp only [impl_readEntry.s0]
    rw [decide_eq_false (by omega)]; rfl)
  exact this

def F_laws_markOpS (q : Int) (x : S_Op) : S_Op := ⟨q, (q + 1), (q + 2)⟩
theorem mk_laws_markOpS (x : List S_Op) (k : Int) (h0 : 0 ≤ k) (h1 : k ≤ 144115188075855872) (hl : x.length ≤ 1048576) : ∃ m a, laws_markOpS.f x k = some (m, a) ∧ k ≤ m ∧ m ≤ k + 3145728 ∧ a.length = x.length ∧ laws_heldOpS.f a k = some m := by
  have hm := mark_gen (ρ := Int × List S_Op) x z_Op F_laws_markOpS 3 k (fun s => laws_markOpS.s0 x s.1 s.2.1 s.2.2) (by decide) (fun i u q hi hu hg hq1 hq2 => by
    have w1 : w64 (q + 1) = q + 1 := by rw [w64_id (by omega) (by omega)]
    have w2 : w64 (q + 1 + 1) = q + 2 := by rw [w64_id (by omega) (by omega)]; omega
    have w3 : w64 (q + 2 + 1) = q + 3 := by rw [w64_id (by omega) (by omega)]; omega
    have wi : w64 ((i : Int) + 1) = ((i + 1 : Nat) : Int) := by rw [w64_id (by omega) (by omega)]; omega
    simp only [laws_markOpS.s0, decide_eq_true (show (i : Int) < (x.length : Int) by omega), cond_true, if_pos (show (0 : Int) ≤ (i : Int) ∧ (i : Int) < (x.length : Int) by omega), Int.toNat_natCast, Option.bind_some, w1, w2, w3, wi, List.set_set, getD_set_self _ z_Op _ (show i < u.length by omega), getD_set_self _ z_Op _ (show i < (u.set i _).length by simp; omega), F_laws_markOpS]) (fun u q => by simp only [laws_markOpS.s0]; rw [decide_eq_false (by omega)]; rfl)
  refine ⟨k + 3 * x.length, mkL x z_Op F_laws_markOpS 3 k, ?_, by omega, by omega, mkL_len .., ?_⟩
  · unfold laws_markOpS.f; rw [hm]; rfl
  · have hy := mkL_len x z_Op F_laws_markOpS 3 k
    have hh := held_gen (ρ := Int) (mkL x z_Op F_laws_markOpS 3 k) 3 k (fun s => laws_heldOpS.s0 (mkL x z_Op F_laws_markOpS 3 k) s.1 s.2) (by decide) (fun i hi hq2 hq1 => by
    have hg := mkL_getD x z_Op F_laws_markOpS 3 k (show i < x.length by omega)
    generalize hqq : k + 3 * (i : Int) = q at hg hq1 hq2 ⊢
    rw [hy] at hi hq2
    have w1 : w64 (q + 1) = q + 1 := by rw [w64_id (by omega) (by omega)]
    have w2 : w64 (q + 1 + 1) = q + 2 := by rw [w64_id (by omega) (by omega)]; omega
    have w3 : w64 (q + 2 + 1) = q + 3 := by rw [w64_id (by omega) (by omega)]; omega
    have wi : w64 ((i : Int) + 1) = ((i + 1 : Nat) : Int) := by rw [w64_id (by omega) (by omega)]; omega
    simp only [laws_heldOpS.s0, hy, decide_eq_true (show (i : Int) < (x.length : Int) by omega), cond_true, if_pos (show (0 : Int) ≤ (i : Int) ∧ (i : Int) < (x.length : Int) by omega), Int.toNat_natCast, Option.bind_some, w1, w2, w3, wi, hg, F_laws_markOpS, bne_self_eq_false, beq_self_eq_true, bs_self, Bool.not_true, cond_false]) (fun q => by simp only [laws_heldOpS.s0]; rw [decide_eq_false (by omega)]; rfl)
    rw [hy] at hh
    unfold laws_heldOpS.f; rw [hh]; rfl

theorem mk_laws_markTxnS (x : List S_Txn) (k : Int) (h0 : 0 ≤ k) (h1 : k ≤ 144111889540972544) (hl : x.length ≤ 1048576 ∧ ∀ z0 : S_Txn, z0 ∈ x → ((z0.Ops.length ≤ 1048576))) : ∃ m a, laws_markTxnS.f x k = some (m, a) ∧ k ≤ m ∧ m ≤ k + 3298534883328 ∧ a.length = x.length ∧ laws_heldTxnS.f a k = some m := by
  obtain ⟨hl1, hl2⟩ := hl
  obtain ⟨a, m, e1, e2, e3, e4, qs, e5, e6, e7⟩ := mark_gen2 (ρ := Int × (List S_Txn)) x z_Txn 3145728 k (fun e q q2 => laws_heldOpS.f e.Ops q = some q2) (fun s => laws_markTxnS.s0 x s.1 s.2.1 s.2.2) (by decide) (fun i u q hi hu hg hq1 hq2 => by
    have wi : w64 ((i : Int) + 1) = ((i + 1 : Nat) : Int) := by rw [w64_id (by omega) (by omega)]; omega
    obtain ⟨m2, b, f1, f2, f3, f4, f5⟩ := mk_laws_markOpS (x.getD i z_Txn).Ops q (by omega) (by omega) (hl2 _ (getD_mem hi _))
    refine ⟨⟨b⟩, m2, ?_, by omega, by omega, f5⟩
    simp only [laws_markTxnS.s0, decide_eq_true (show (i : Int) < (x.length : Int) by omega), cond_true, if_pos (show (0 : Int) ≤ (i : Int) ∧ (i : Int) < (x.length : Int) by omega), Int.toNat_natCast, wi, List.set_set, getD_set_self _ z_Txn _ (show i < u.length by omega), hg, f1, Option.bind_some]) (fun u q => by simp only [laws_markTxnS.s0]; rw [decide_eq_false (by omega)]; rfl)
  refine ⟨m, a, ?_, e3, by omega, e2, ?_⟩
  · unfold laws_markTxnS.f; rw [e1]; rfl
  · have hh := held_gen2 (ρ := Int) x.length qs (fun s => laws_heldTxnS.s0 a s.1 s.2) (fun i hi => by
      obtain ⟨g1, g2, g3⟩ := e7 i hi
      generalize qs i = q at g1 g2 g3 ⊢
      have wi : w64 ((i : Int) + 1) = ((i + 1 : Nat) : Int) := by rw [w64_id (by omega) (by omega)]; omega
      have g5 := g3
      have g6 : ¬ qs (i + 1) < 0 := by
        by_cases hj : i + 1 < x.length
        · have := (e7 (i + 1) hj).1; omega
        · have : i + 1 = x.length := by omega
          rw [this, e6]; omega
      simp only [laws_heldTxnS.s0, e2, decide_eq_true (show (i : Int) < (x.length : Int) by omega), cond_true, if_pos (show (0 : Int) ≤ (i : Int) ∧ (i : Int) < (x.length : Int) by omega), Int.toNat_natCast, wi, bne_self_eq_false, cond_false, g5, Option.bind_some, decide_eq_false g6]) (fun q => by simp only [laws_heldTxnS.s0]; rw [decide_eq_false (by omega)]; rfl)
    rw [e5, e6] at hh
    unfold laws_heldTxnS.f; rw [hh]; rfl

def F_laws_markIntS (q : Int) (x : Int) : Int := q
theorem mk_laws_markIntS (x : List Int) (k : Int) (h0 : 0 ≤ k) (h1 : k ≤ 144115188075855872) (hl : x.length ≤ 1048576) : ∃ m a, laws_markIntS.f x k = some (m, a) ∧ k ≤ m ∧ m ≤ k + 1048576 ∧ a.length = x.length ∧ laws_heldIntS.f a k = some m := by
  have hm := mark_gen (ρ := Int × List Int) x 0 F_laws_markIntS 1 k (fun s => laws_markIntS.s0 x s.1 s.2.1 s.2.2) (by decide) (fun i u q hi hu hg hq1 hq2 => by
    have w1 : w64 (q + 1) = q + 1 := by rw [w64_id (by omega) (by omega)]
    have wi : w64 ((i : Int) + 1) = ((i + 1 : Nat) : Int) := by rw [w64_id (by omega) (by omega)]; omega
    simp only [laws_markIntS.s0, decide_eq_true (show (i : Int) < (x.length : Int) by omega), cond_true, if_pos (show (0 : Int) ≤ (i : Int) ∧ (i : Int) < (x.length : Int) by omega), Int.toNat_natCast, Option.bind_some, w1, wi, List.set_set, getD_set_self _ 0 _ (show i < u.length by omega), getD_set_self _ 0 _ (show i < (u.set i _).length by simp; omega), F_laws_markIntS]) (fun u q => by simp only [laws_markIntS.s0]; rw [decide_eq_false (by omega)]; rfl)
  refine ⟨k + 1 * x.length, mkL x 0 F_laws_markIntS 1 k, ?_, by omega, by omega, mkL_len .., ?_⟩
  · unfold laws_markIntS.f; rw [hm]; rfl
  · have hy := mkL_len x 0 F_laws_markIntS 1 k
    have hh := held_gen (ρ := Int) (mkL x 0 F_laws_markIntS 1 k) 1 k (fun s => laws_heldIntS.s0 (mkL x 0 F_laws_markIntS 1 k) s.1 s.2) (by decide) (fun i hi hq2 hq1 => by
    have hg := mkL_getD x 0 F_laws_markIntS 1 k (show i < x.length by omega)
    generalize hqq : k + 1 * (i : Int) = q at hg hq1 hq2 ⊢
    rw [hy] at hi hq2
    have w1 : w64 (q + 1) = q + 1 := by rw [w64_id (by omega) (by omega)]
    have wi : w64 ((i : Int) + 1) = ((i + 1 : Nat) : Int) := by rw [w64_id (by omega) (by omega)]; omega
    simp only [laws_heldIntS.s0, hy, decide_eq_true (show (i : Int) < (x.length : Int) by omega), cond_true, if_pos (show (0 : Int) ≤ (i : Int) ∧ (i : Int) < (x.length : Int) by omega), Int.toNat_natCast, Option.bind_some, w1, wi, hg, F_laws_markIntS, bne_self_eq_false, beq_self_eq_true, bs_self, Bool.not_true, cond_false]) (fun q => by simp only [laws_heldIntS.s0]; rw [decide_eq_false (by omega)]; rfl)
    rw [hy] at hh
    unfold laws_heldIntS.f; rw [hh]; rfl

end Go.Proofs.Ytmgfkpfacdlfbaa
