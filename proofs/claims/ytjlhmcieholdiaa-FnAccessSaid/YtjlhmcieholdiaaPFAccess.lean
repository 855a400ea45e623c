/- What the models of these functions come to. -/
import Derived.Test.YtjlhmcieholdiaaP0
import Derived.Test.YtjlhmcieholdiaaGFAccessn4
namespace Go.Proofs.Ytjlhmcieholdiaa
open Go Go.Z Go.Proofs Go.MuLone Go.ChangeShapes Go.WideShapes Go.ChangeAt Go.RowKit
set_option linter.unusedVariables false
set_option linter.unusedSimpArgs false
def blkI (L : List Int) (s : Nat × Bool) : S_Block × (Nat × Bool) := (⟨(nI L 0 11 s).1, (nI L 0 7 (nI L 0 11 s).2).1, (nI L 0 999999 (nI L 0 7 (nI L 0 11 s).2).2).1⟩, (nI L 0 999999 (nI L 0 7 (nI L 0 11 s).2).2).2)
def blkS (L : List Int) (q : Nat) : S_Block × Nat := (⟨(nS L q).1, (nS L (nS L q).2).1, (nS L (nS L (nS L q).2).2).1⟩, (nS L (nS L (nS L q).2).2).2)
def rngB (b : S_Block) : Bool := inB b.Id 0 11 && inB b.Leaf 0 7 && inB b.Value 0 999999
theorem blk_pair (L : List Int) : RPair L (blkI L) (blkS L) rngB :=
  RPair.seq (α := Int × Int) (RPair.seq (RPair.base L 0 11 (by decide)) (RPair.base L 0 7 (by decide)) Prod.mk (fun ab => inB ab.1 0 11 && inB ab.2 0 7) (fun _ _ => rfl)) (RPair.base L 0 999999 (by decide)) (fun ab c => ⟨ab.1, ab.2, c⟩) rngB (fun _ _ => rfl)
theorem blkS_le {L : List Int} {q : Nat} (h : q ≤ L.length + 1) : (blkS L q).2 ≤ L.length + 1 := nS_le (nS_le (nS_le h))

def blkInts (l : List S_Block) : List Int := l.flatMap (fun b => [b.Id, b.Leaf, b.Value])
theorem blkInts_snoc (l : List S_Block) (b : S_Block) : blkInts (l ++ [b]) = blkInts l ++ [b.Id, b.Leaf, b.Value] := by simp [blkInts]
theorem blkInts_len (l : List S_Block) : (blkInts l).length = 3 * l.length := by
  induction l with
  | nil => rfl
  | cons a l ih =>
    show ([a.Id, a.Leaf, a.Value] ++ blkInts l).length = _
    rw [List.length_append, ih]; simp only [List.length_cons, List.length_nil]; omega

theorem nodup_le : ∀ (n : Nat) (l : List Int), l.Nodup → (∀ x ∈ l, 0 ≤ x ∧ x < (n : Int)) → l.length ≤ n
  | 0, l, _, h => by
    cases l with
    | nil => exact Nat.le_refl _
    | cons a r => have := h a (List.mem_cons_self ..); omega
  | n + 1, l, hn, h => by
    by_cases hm : (n : Int) ∈ l
    · have h1 := nodup_le n (l.erase (n : Int)) (hn.erase _) (fun x hx => by
        have h2 := (hn.mem_erase_iff).1 hx
        have := h x h2.2
        omega)
      rw [List.length_erase_of_mem hm] at h1
      omega
    · have h1 := nodup_le n l hn (fun x hx => by
        have := h x hx
        have : x ≠ (n : Int) := fun e => hm (e ▸ hx)
        omega)
      omega
/-- A block that is right, but for others of its id. -/
def okB (pos : List Int) (b : S_Block) : Bool := inB b.Id 0 11 && ((pos.getD b.Id.toNat 0 == b.Leaf) && inB b.Value 0 999999)
/-- Blocks one after the other, each right, their ids apart. -/
def goB (pos : List Int) : List S_Block → List Int → Option (List Int)
  | [], ids => some ids
  | b :: r, ids => bif okB pos b && !ids.contains b.Id then goB pos r (ids ++ [b.Id]) else none
theorem goB_app (pos : List Int) : ∀ (a b : List S_Block) (ids : List Int), goB pos (a ++ b) ids = (goB pos a ids).bind (goB pos b)
  | [], b, ids => rfl
  | x :: a, b, ids => by
    simp only [List.cons_append, goB]
    cases okB pos x && !ids.contains x.Id
    · rfl
    · exact goB_app pos a b _
theorem goB_len (pos : List Int) : ∀ (l : List S_Block) (ids r : List Int), goB pos l ids = some r → ids.Nodup → (∀ x ∈ ids, 0 ≤ x ∧ x < 12) → r.length = ids.length + l.length ∧ r.Nodup ∧ ∀ x ∈ r, 0 ≤ x ∧ x < 12
  | [], ids, r, h, h1, h2 => by
    have := Option.some.inj h; subst this; exact ⟨by simp, h1, h2⟩
  | b :: l, ids, r, h, h1, h2 => by
    simp only [goB] at h
    cases hc : okB pos b && !ids.contains b.Id
    · rw [hc] at h; cases h
    · rw [hc] at h
      simp only [Bool.and_eq_true, Bool.not_eq_true', okB, inB_iff] at hc
      have hni : b.Id ∉ ids := by
        intro hm
        have := List.contains_iff_mem.2 hm
        rw [hc.2] at this; cases this
      obtain ⟨h3, h4, h5⟩ := goB_len pos l (ids ++ [b.Id]) r h (by
        rw [List.nodup_append]
        refine ⟨h1, by simp, fun x hx y hy => ?_⟩
        rw [List.mem_singleton.1 hy]
        intro e; exact hni (e ▸ hx)) (fun x hx => by
        rcases List.mem_append.1 hx with hx | hx
        · exact h2 x hx
        · rw [List.mem_singleton.1 hx]; omega)
      refine ⟨?_, h4, h5⟩
      rw [h3, List.length_append, List.length_cons, List.length_cons, List.length_nil]; omega
theorem goB_le (pos : List Int) (l : List S_Block) (r : List Int) (h : goB pos l [] = some r) : l.length ≤ 12 := by
  obtain ⟨h1, h2, h3⟩ := goB_len pos l [] r h List.nodup_nil (by simp)
  have := nodup_le 12 r h2 h3
  simp only [List.length_nil] at h1
  omega
def onB (i : Int) (b : S_Block) : Bool := inB b.Leaf 0 7 && (pathL b.Leaf).contains i
def leavesOK (pos : List Int) : Prop := pos.length = 12 ∧ ∀ y ∈ pos, 0 ≤ y ∧ y ≤ 7
theorem okB_leaf {pos : List Int} {b : S_Block} (hp : leavesOK pos) (h : okB pos b = true) : 0 ≤ b.Leaf ∧ b.Leaf ≤ 7 := by
  unfold okB at h
  simp only [Bool.and_eq_true, inB_iff, beq_iff_eq] at h
  have hl := hp.1
  rw [← h.2.1]
  exact hp.2 _ (getD_mem (by omega) 0)
/-- What both look at. -/
def oramB (o : S_Oram) : Bool := ((o.Pos.length : Int) == 12) && o.Pos.all (fun x => inB x 0 7) && ((o.Buckets.length : Int) == 15) && (List.range o.Buckets.length).all (fun i => decide ((o.Buckets.getD i []).length ≤ 2) && (o.Buckets.getD i []).all (onB i)) && (goB o.Pos (o.Stash ++ o.Buckets.flatten) []).isSome
theorem take_flat {α : Type} (l : List (List α)) (k : Nat) (hk : k < l.length) : (l.take (k + 1)).flatten = (l.take k).flatten ++ l.getD k [] := by
  rw [take_snoc l k hk []]; simp
theorem goB_len' (pos : List Int) : ∀ (l : List S_Block) (ids r : List Int), goB pos l ids = some r → r.length = ids.length + l.length
  | [], ids, r, h => by have := Option.some.inj h; subst this; simp
  | b :: l, ids, r, h => by
    simp only [goB] at h
    cases hc : okB pos b && !ids.contains b.Id
    · rw [hc] at h; cases h
    · rw [hc] at h
      have := goB_len' pos l (ids ++ [b.Id]) r h
      rw [this, List.length_append, List.length_cons, List.length_cons, List.length_nil]; omega
/-- A key at its place: right, and apart from those ahead, but for 0. -/
def keyP (l : List Int) (k : Nat) : Bool := inB (l.getD k 0) 0 9999 && (l.getD k 0 == 0 || !(l.take k).contains (l.getD k 0))
def keysB (l : List Int) : Bool := (List.range l.length).all (keyP l)
/-- The value of the first block of an id. -/
def valueL (l : List S_Block) (id : Int) : Int := match l.find? (fun b => b.Id == id) with | some b => b.Value | none => 0
theorem goB_ok (pos : List Int) : ∀ (l : List S_Block) (ids r : List Int), goB pos l ids = some r → ∀ b ∈ l, okB pos b = true
  | [], _, _, _, b, hb => by simp at hb
  | x :: l, ids, r, h, b, hb => by
    simp only [goB] at h
    cases hc : okB pos x && !ids.contains x.Id
    · rw [hc] at h; cases h
    · rw [hc] at h
      simp only [Bool.and_eq_true] at hc
      rcases List.mem_cons.1 hb with rfl | hb
      · exact hc.1
      · exact goB_ok pos l _ r h b hb
theorem valueL_rng (pos : List Int) (l : List S_Block) (r : List Int) (h : goB pos l [] = some r) (id : Int) : 0 ≤ valueL l id ∧ valueL l id ≤ 999999 := by
  unfold valueL
  cases hf : l.find? (fun b => b.Id == id) with
  | none => simp
  | some b =>
    have := goB_ok pos l [] r h b (List.mem_of_find?_eq_some hf)
    unfold okB at this
    simp only [Bool.and_eq_true, inB_iff] at this
    exact this.2.2

theorem l01In_eq (x lo hi : Int) : spec_l01In.f x lo hi = some (inB x lo hi) := by
  unfold spec_l01In.f inB; cases decide (lo ≤ x) <;> rfl

theorem l08Leaves_eq (l : List Int) (h : l.length ≤ 1073741824) : spec_l08Leaves.f l = some (l.all (fun x => inB x 0 7)) := by
  unfold spec_l08Leaves.f
  have := loopO_scan (step := fun s => spec_l08Leaves.s0 l s) (fun k => (k : Int)) l.length (fun k => inB (l.getD k 0) 0 7) (b := false) (t := ()) (fun k hk => by
    simp only [spec_l08Leaves.s0, l01In_eq, Option.bind_some, Int.toNat_natCast, decide_eq_true (show (k : Int) < (l.length : Int) by omega), cond_true, if_pos (show (0 : Int) ≤ (k : Int) ∧ (k : Int) < (l.length : Int) by omega)]
    rw [w64_id (by omega) (by omega)]
    cases inB (l.getD k 0) 0 7 <;> rfl) (by
    simp only [spec_l08Leaves.s0]
    rw [decide_eq_false (by omega)]; rfl)
  have t2 : loopO (fun s => spec_l08Leaves.s0 l s) 0 = _ := this
  rw [t2, all_range l 0 (fun x => inB x 0 7)]
  cases l.all (fun x => inB x 0 7) <;> rfl

theorem l08In_eq (l : List Int) (x : Int) (h : l.length ≤ 1073741824) : spec_l08In.f l x = some (l.contains x) := by
  unfold spec_l08In.f
  obtain ⟨r, h1, h2⟩ := loopO_wf (step := fun s => spec_l08In.s0 l x s) (fun s => ∃ i : Nat, s = (i : Int) ∧ i ≤ l.length ∧ (l.take i).contains x = false) (fun r => match r with | .out _ => l.contains x = false | .ret r => r = true ∧ l.contains x = true) (fun s => (l.length - s).toNat) (fun s hI => by
    obtain ⟨i, rfl, hi, ha⟩ := hI
    by_cases hlt : i < l.length
    · simp only [spec_l08In.s0, decide_eq_true (show (i : Int) < (l.length : Int) by omega), cond_true, if_pos (show (0 : Int) ≤ (i : Int) ∧ (i : Int) < (l.length : Int) by omega), Int.toNat_natCast]
      cases hc : (l.getD i 0 == x)
      · rw [w64_id (by omega) (by omega)]
        refine .inl ⟨_, rfl, ⟨i + 1, by omega, by omega, ?_⟩, by omega⟩
        rw [take_snoc l i hlt 0]
        have hne : ¬ x = l.getD i 0 := fun e => by rw [← e] at hc; simp at hc
        have hmem : x ∉ l.take i := fun hm => by rw [List.contains_iff_mem.2 hm] at ha; cases ha
        rw [← Bool.not_eq_true, List.contains_iff_mem, List.mem_append, List.mem_singleton]
        exact fun hq => hq.elim hmem hne
      · refine .inr ⟨_, rfl, rfl, ?_⟩
        have : l.getD i 0 = x := by simpa using hc
        rw [List.contains_iff_mem, ← this]
        exact getD_mem hlt 0
    · have e : i = l.length := by omega
      subst e
      rw [List.take_length] at ha
      simp only [spec_l08In.s0]
      rw [decide_eq_false (by omega)]
      exact .inr ⟨_, rfl, ha⟩) _ 0 (Nat.le_refl _) ⟨0, rfl, Nat.zero_le _, rfl⟩
  rw [h1]
  cases r with
  | out u => simp only [Option.bind_some, h2]
  | ret r => simp only [Option.bind_some, h2.1, h2.2]

theorem l08Block_eq (o : S_Oram) (b : S_Block) (ids : List Int) (hp : o.Pos.length = 12) (hi : ids.length ≤ 1073741824) : spec_l08Block.f o b ids = some (okB o.Pos b && !ids.contains b.Id) := by
  unfold spec_l08Block.f okB
  simp only [l01In_eq, l08In_eq ids b.Id hi, Option.bind_some]
  cases h1 : inB b.Id 0 11
  · rfl
  · have := inB_iff.1 h1
    simp only [cond_true]
    rw [if_pos (by omega)]
    cases (o.Pos.getD b.Id.toNat 0 == b.Leaf)
    · rfl
    · cases inB b.Value 0 999999 <;> rfl

theorem l08Path_step (l : List Int) (a : Int) (ha : 1 ≤ a ∧ a ≤ 100) (hl : l.length ≤ 100) : spec_l08Path.s0 l a = some (.inl ([a] ++ l, (a - 1) / 2)) := by
  have ht : Int.tdiv (a - 1) 2 = (a - 1) / 2 := Int.tdiv_eq_ediv_of_nonneg (by omega)
  have hw : IntKind.wrap .i64 (Int.tdiv (a - 1) 2) = (a - 1) / 2 := by rw [ht]; exact w64_id (by omega) (by omega)
  simp only [spec_l08Path.s0]
  rw [if_pos (by simp only [List.length_cons, List.length_nil]; omega), show (a == 0) = false by simp only [beq_eq_false_iff_ne]; omega, w64_id (x := a - 1) (by omega) (by omega), hw]
  rfl
theorem l08Path_eq (x : Int) (hx : 0 ≤ x ∧ x ≤ 7) : spec_l08Path.f x = some (pathL x) := by
  unfold spec_l08Path.f
  have e1 : (7 + x - 1) / 2 = up1 x := by unfold up1; congr 1; omega
  have u1 : 3 ≤ up1 x ∧ up1 x ≤ 6 := by unfold up1; omega
  have u2 : 1 ≤ up2 x ∧ up2 x ≤ 2 := by unfold up2; omega
  have e3 : (up2 x - 1) / 2 = 0 := by omega
  have h1 := l08Path_step [] (7 + x) (by omega) (by simp)
  have h2 := l08Path_step [7 + x] (up1 x) (by omega) (by simp)
  have h3 := l08Path_step [up1 x, 7 + x] (up2 x) (by omega) (by simp)
  rw [e1] at h1
  rw [show (up1 x - 1) / 2 = up2 x from rfl] at h2
  rw [e3] at h3
  have h4 : spec_l08Path.s0 [up2 x, up1 x, 7 + x] 0 = some (.inr (.ret (pathL x))) := by
    simp only [spec_l08Path.s0]
    rw [if_pos (by simp)]
    rfl
  rw [w64_id (by omega) (by omega)]
  rw [loopO_next (step := fun s : List Int × Int => spec_l08Path.s0 s.1 s.2) (s := ([], 7 + x)) h1, loopO_next (step := fun s : List Int × Int => spec_l08Path.s0 s.1 s.2) (s := ([7 + x] ++ [], up1 x)) h2, loopO_next (step := fun s : List Int × Int => spec_l08Path.s0 s.1 s.2) (s := ([up1 x] ++ [7 + x], up2 x)) h3, loopO_stop (step := fun s : List Int × Int => spec_l08Path.s0 s.1 s.2) (s := ([up2 x] ++ [up1 x, 7 + x], 0)) h4]
  rfl

theorem l08On_loop (l : List Int) (x : Int) (h : l.length ≤ 1073741824) : ((loopO (fun s => spec_l08On.s0 x l s) 0).bind fun o => match o with | .out _ => (some false) | .ret r => (some r)) = some (l.contains x) := by

  obtain ⟨r, h1, h2⟩ := loopO_wf (step := fun s => spec_l08On.s0 x l s) (fun s => ∃ i : Nat, s = (i : Int) ∧ i ≤ l.length ∧ (l.take i).contains x = false) (fun r => match r with | .out _ => l.contains x = false | .ret r => r = true ∧ l.contains x = true) (fun s => (l.length - s).toNat) (fun s hI => by
    obtain ⟨i, rfl, hi, ha⟩ := hI
    by_cases hlt : i < l.length
    · simp only [spec_l08On.s0, decide_eq_true (show (i : Int) < (l.length : Int) by omega), cond_true, if_pos (show (0 : Int) ≤ (i : Int) ∧ (i : Int) < (l.length : Int) by omega), Int.toNat_natCast]
      cases hc : (l.getD i 0 == x)
      · rw [w64_id (by omega) (by omega)]
        refine .inl ⟨_, rfl, ⟨i + 1, by omega, by omega, ?_⟩, by omega⟩
        rw [take_snoc l i hlt 0]
        have hne : ¬ x = l.getD i 0 := fun e => by rw [← e] at hc; simp at hc
        have hmem : x ∉ l.take i := fun hm => by rw [List.contains_iff_mem.2 hm] at ha; cases ha
        rw [← Bool.not_eq_true, List.contains_iff_mem, List.mem_append, List.mem_singleton]
        exact fun hq => hq.elim hmem hne
      · refine .inr ⟨_, rfl, rfl, ?_⟩
        have : l.getD i 0 = x := by simpa using hc
        rw [List.contains_iff_mem, ← this]
        exact getD_mem hlt 0
    · have e : i = l.length := by omega
      subst e
      rw [List.take_length] at ha
      simp only [spec_l08On.s0]
      rw [decide_eq_false (by omega)]
      exact .inr ⟨_, rfl, ha⟩) _ 0 (Nat.le_refl _) ⟨0, rfl, Nat.zero_le _, rfl⟩
  rw [h1]
  cases r with
  | out u => simp only [Option.bind_some, h2]
  | ret r => simp only [Option.bind_some, h2.1, h2.2]
theorem l08On_eq (i x : Int) (hx : 0 ≤ x ∧ x ≤ 7) : spec_l08On.f i x = some ((pathL x).contains i) := by
  unfold spec_l08On.f
  rw [l08Path_eq x hx]
  exact l08On_loop (pathL x) i (by simp [pathL])

theorem spec_stash (o : S_Oram) (hp : leavesOK o.Pos) (hl : o.Stash.length ≤ 12) : loopO (fun s : List Int × Int => spec_OramOK.s0 o s.1 s.2) (([] : List Int), 0) = some (match goB o.Pos o.Stash [] with | some r => .out r | none => .ret false) := by
  have hpl := hp.1
  obtain ⟨r, e1, e2⟩ := loopO_wf (step := fun s : List Int × Int => spec_OramOK.s0 o s.1 s.2) (fun s => ∃ i : Nat, s.2 = (i : Int) ∧ i ≤ o.Stash.length ∧ s.1.length = i ∧ goB o.Pos (o.Stash.drop i) s.1 = goB o.Pos o.Stash []) (fun r => r = match goB o.Pos o.Stash [] with | some r => Ex.out r | none => Ex.ret false) (fun s => (o.Stash.length - s.2).toNat) (fun s hI => by
    obtain ⟨ids, k⟩ := s
    obtain ⟨i, hk, hi, hlen, hg⟩ := hI
    simp only at hk hlen hg
    subst hk
    by_cases hlt : i < o.Stash.length
    · have hd : o.Stash.drop i = o.Stash.getD i z_Block :: o.Stash.drop (i + 1) := by rw [getD_lt hlt]; exact List.drop_eq_getElem_cons hlt
      rw [hd] at hg
      simp only [goB] at hg
      simp only [spec_OramOK.s0, decide_eq_true (show (i : Int) < (o.Stash.length : Int) by omega), cond_true, if_pos (show (0 : Int) ≤ (i : Int) ∧ (i : Int) < (o.Stash.length : Int) by omega), Int.toNat_natCast, l08Block_eq o (o.Stash.getD i z_Block) ids hpl (by omega), Option.bind_some]
      cases hc : (okB o.Pos (o.Stash.getD i z_Block) && !ids.contains (o.Stash.getD i z_Block).Id)
      · rw [hc] at hg
        exact .inr ⟨_, rfl, by rw [← hg]; rfl⟩
      · rw [hc] at hg
        simp only [Bool.not_true, cond_false]
        rw [if_pos (by simp only [List.length_cons, List.length_nil]; omega), w64_id (by omega) (by omega)]
        exact .inl ⟨_, rfl, ⟨i + 1, by simp only; omega, by omega, by simp only [List.length_append, List.length_cons, List.length_nil]; omega, hg⟩, by simp only; omega⟩
    · have e : i = o.Stash.length := by omega
      subst e
      rw [List.drop_length] at hg
      simp only [spec_OramOK.s0]
      rw [decide_eq_false (by omega)]
      exact .inr ⟨_, rfl, by rw [← hg]; rfl⟩) _ (([] : List Int), 0) (Nat.le_refl _) ⟨0, rfl, Nat.zero_le _, rfl, rfl⟩
  rw [e1, e2]
theorem spec_bucket (o : S_Oram) (hp : leavesOK o.Pos) (q : Nat) (hq : q < o.Buckets.length) (hq2 : o.Buckets.length ≤ 1048576) (ids : List Int) (hi : ids.length ≤ 1048576) (hl : (o.Buckets.getD q []).length ≤ 2) : loopO (fun s : List Int × Int => spec_OramOK.s2 o (q : Int) s.1 s.2) (ids, 0) = some (match goB o.Pos (o.Buckets.getD q []) ids with | some r => bif (o.Buckets.getD q []).all (onB q) then .out r else .ret false | none => .ret false) := by
  have hpl := hp.1
  obtain ⟨r, e1, e2⟩ := loopO_wf (step := fun s : List Int × Int => spec_OramOK.s2 o (q : Int) s.1 s.2) (fun s => ∃ i : Nat, s.2 = (i : Int) ∧ i ≤ (o.Buckets.getD q []).length ∧ s.1.length ≤ 1048576 + i ∧ goB o.Pos ((o.Buckets.getD q []).drop i) s.1 = goB o.Pos (o.Buckets.getD q []) ids ∧ ((o.Buckets.getD q []).take i).all (onB q) = true) (fun r => r = match goB o.Pos (o.Buckets.getD q []) ids with | some r => bif (o.Buckets.getD q []).all (onB q) then Ex.out r else Ex.ret false | none => Ex.ret false) (fun s => ((o.Buckets.getD q []).length - s.2).toNat) (fun s hI => by
    obtain ⟨idn, k⟩ := s
    obtain ⟨i, hk, hi2, hlen, hg, ha⟩ := hI
    simp only at hk hlen hg
    subst hk
    by_cases hlt : i < (o.Buckets.getD q []).length
    · have hd : (o.Buckets.getD q []).drop i = (o.Buckets.getD q []).getD i z_Block :: (o.Buckets.getD q []).drop (i + 1) := by rw [getD_lt hlt]; exact List.drop_eq_getElem_cons hlt
      rw [hd] at hg
      simp only [goB] at hg
      simp only [spec_OramOK.s2, if_pos (show (0 : Int) ≤ (q : Int) ∧ (q : Int) < (o.Buckets.length : Int) by omega), Int.toNat_natCast, decide_eq_true (show (i : Int) < ((o.Buckets.getD q []).length : Int) by omega), cond_true, if_pos (show (0 : Int) ≤ (i : Int) ∧ (i : Int) < ((o.Buckets.getD q []).length : Int) by omega), l08Block_eq o ((o.Buckets.getD q []).getD i z_Block) idn hpl (by omega), Option.bind_some]
      cases hc : (okB o.Pos ((o.Buckets.getD q []).getD i z_Block) && !idn.contains ((o.Buckets.getD q []).getD i z_Block).Id)
      · rw [hc] at hg
        exact .inr ⟨_, rfl, by rw [← hg]; rfl⟩
      · rw [hc] at hg
        simp only [Bool.and_eq_true] at hc
        have hlf := okB_leaf hp hc.1
        simp only [Bool.not_true, cond_false, l08On_eq (q : Int) _ hlf, Option.bind_some]
        have hon : onB q ((o.Buckets.getD q []).getD i z_Block) = (pathL ((o.Buckets.getD q []).getD i z_Block).Leaf).contains (q : Int) := by
          unfold onB; rw [inB_iff.2 hlf, Bool.true_and]
        cases hcc : (pathL ((o.Buckets.getD q []).getD i z_Block).Leaf).contains (q : Int)
        · refine .inr ⟨_, rfl, ?_⟩
          have hf : (o.Buckets.getD q []).all (onB q) = false := by
            rw [← Bool.not_eq_true, List.all_eq_true]
            intro h
            have := h _ (getD_mem hlt z_Block)
            rw [hon, hcc] at this; cases this
          rw [hf]
          cases goB o.Pos (o.Buckets.getD q []) ids <;> rfl
        · simp only [Bool.not_true, cond_false]
          rw [if_pos (by simp only [List.length_cons, List.length_nil]; omega), w64_id (by omega) (by omega)]
          refine .inl ⟨_, rfl, ⟨i + 1, by simp only; omega, by omega, by simp only [List.length_append, List.length_cons, List.length_nil]; omega, hg, ?_⟩, by simp only; omega⟩
          rw [take_snoc _ i hlt z_Block, List.all_append, ha]
          simp only [List.all_cons, List.all_nil, hon, hcc, Bool.and_self]
    · have e : i = (o.Buckets.getD q []).length := by omega
      rw [e, List.drop_length] at hg
      rw [e, List.take_length] at ha
      simp only [spec_OramOK.s2, if_pos (show (0 : Int) ≤ (q : Int) ∧ (q : Int) < (o.Buckets.length : Int) by omega), Int.toNat_natCast]
      rw [decide_eq_false (by omega)]
      exact .inr ⟨_, rfl, by rw [← hg, ha]; rfl⟩) _ (ids, 0) (Nat.le_refl _) ⟨0, rfl, Nat.zero_le _, by simp only; omega, rfl, rfl⟩
  rw [e1, e2]
theorem spec_OramOK_eq (o : S_Oram) (h1 : o.Pos.length ≤ 1073741824) (h3 : o.Buckets.length ≤ 1048576) : spec_OramOK.f o = some (oramB o) := by
  unfold spec_OramOK.f
  simp only [bne, l08Leaves_eq o.Pos h1, Option.bind_some]
  cases hp : ((o.Pos.length : Int) == 12)
  · unfold oramB; rw [hp]; rfl
  cases hl : o.Pos.all (fun x => inB x 0 7)
  · unfold oramB; rw [hl]; simp
  have hp' : o.Pos.length = 12 := by
    have : (o.Pos.length : Int) = 12 := by simpa using hp
    omega
  have hlv : leavesOK o.Pos := ⟨hp', fun y hy => inB_iff.1 (List.all_eq_true.1 hl y hy)⟩
  simp only [Bool.not_true, cond_false]
  by_cases hst : (o.Stash.length : Int) > 12
  · rw [decide_eq_true hst]
    have hn : (goB o.Pos (o.Stash ++ o.Buckets.flatten) []).isSome = false := by
      rw [goB_app]
      cases hg : goB o.Pos o.Stash [] with
      | none => rfl
      | some r => have := goB_le o.Pos o.Stash r hg; omega
    unfold oramB
    rw [hn, Bool.and_false]; rfl
  rw [decide_eq_false hst]
  simp only [cond_false]
  cases hb : ((o.Buckets.length : Int) == 15)
  · unfold oramB; rw [hb]; simp
  have hb' : o.Buckets.length = 15 := by
    have : (o.Buckets.length : Int) = 15 := by simpa using hb
    omega
  simp only [Bool.not_true, Option.bind_some, cond_false, spec_stash o hlv (by omega)]
  unfold oramB
  rw [hp, hl, hb, goB_app]
  simp only [Bool.true_and]
  cases hg : goB o.Pos o.Stash [] with
  | none => simp
  | some r0 =>
    obtain ⟨g1, g2, g3⟩ := goB_len o.Pos o.Stash [] r0 hg List.nodup_nil (by simp)
    simp only [List.length_nil] at g1
    simp only [Option.bind_some]
    obtain ⟨r, e1, e2⟩ := loopO_wf (step := fun s : List Int × Int => spec_OramOK.s1 o s.1 s.2) (fun s => ∃ i : Nat, s.2 = (i : Int) ∧ i ≤ 15 ∧ s.1.length ≤ 12 + 2 * i ∧ goB o.Pos (o.Buckets.drop i).flatten s.1 = goB o.Pos o.Buckets.flatten r0 ∧ (∀ k, k < i → (decide ((o.Buckets.getD k []).length ≤ 2) && (o.Buckets.getD k []).all (onB k)) = true))
      (fun r => match r with | .out _ => ((List.range o.Buckets.length).all (fun i => decide ((o.Buckets.getD i []).length ≤ 2) && (o.Buckets.getD i []).all (onB i)) && (goB o.Pos o.Buckets.flatten r0).isSome) = true | .ret b => b = false ∧ ((List.range o.Buckets.length).all (fun i => decide ((o.Buckets.getD i []).length ≤ 2) && (o.Buckets.getD i []).all (onB i)) && (goB o.Pos o.Buckets.flatten r0).isSome) = false) (fun s => (15 - s.2).toNat) (fun s hI => by
      obtain ⟨ids, k⟩ := s
      obtain ⟨i, hk, hi, hlen, hgo, hal⟩ := hI
      simp only at hk hlen hgo
      subst hk
      by_cases hlt : i < 15
      · have hib : i < o.Buckets.length := by omega
        have hd : o.Buckets.drop i = o.Buckets.getD i [] :: o.Buckets.drop (i + 1) := by rw [getD_lt hib]; exact List.drop_eq_getElem_cons hib
        rw [hd, List.flatten_cons, goB_app] at hgo
        have bad : (decide ((o.Buckets.getD i []).length ≤ 2) && (o.Buckets.getD i []).all (onB i)) = false → (List.range o.Buckets.length).all (fun i => decide ((o.Buckets.getD i []).length ≤ 2) && (o.Buckets.getD i []).all (onB i)) = false := fun hf => by
          rw [← Bool.not_eq_true, List.all_eq_true]
          intro h
          have := h i (List.mem_range.2 hib)
          rw [hf] at this; cases this
        simp only [spec_OramOK.s1, decide_eq_true (show (i : Int) < 15 by omega), cond_true, if_pos (show (0 : Int) ≤ (i : Int) ∧ (i : Int) < (o.Buckets.length : Int) by omega), Int.toNat_natCast]
        by_cases h2 : ((o.Buckets.getD i []).length : Int) > 2
        · rw [decide_eq_true h2]
          refine .inr ⟨_, rfl, rfl, ?_⟩
          rw [bad (by rw [decide_eq_false (show ¬ (o.Buckets.getD i []).length ≤ 2 by omega)]; rfl)]; rfl
        · rw [decide_eq_false h2]
          simp only [cond_false, spec_bucket o hlv i hib (by omega) ids (by omega) (by omega)]
          cases hgb : goB o.Pos (o.Buckets.getD i []) ids with
          | none =>
            rw [hgb] at hgo
            refine .inr ⟨_, rfl, rfl, ?_⟩
            rw [← hgo]; simp
          | some r1 =>
            rw [hgb] at hgo
            simp only [Option.bind_some] at hgo
            have hlr : r1.length = ids.length + (o.Buckets.getD i []).length := goB_len' o.Pos _ _ _ hgb
            cases ha : (o.Buckets.getD i []).all (onB i)
            · refine .inr ⟨_, rfl, rfl, ?_⟩
              rw [bad (by rw [ha, Bool.and_false])]; rfl
            · simp only [cond_true, Option.bind_some]
              rw [w64_id (by omega) (by omega)]
              refine .inl ⟨_, rfl, ⟨i + 1, by simp only; omega, by omega, by simp only; omega, hgo, fun k hk => ?_⟩, by simp only; omega⟩
              by_cases e : k = i
              · rw [e, ha, decide_eq_true (show (o.Buckets.getD i []).length ≤ 2 by omega)]; rfl
              · exact hal k (by omega)
      · have e : i = o.Buckets.length := by omega
        rw [e, List.drop_length] at hgo
        simp only [spec_OramOK.s1]
        rw [decide_eq_false (by omega)]
        refine .inr ⟨_, rfl, ?_⟩
        simp only [Bool.and_eq_true]
        refine ⟨List.all_eq_true.2 (fun k hk => hal k (by have := List.mem_range.1 hk; omega)), ?_⟩
        rw [← hgo]; rfl) _ (r0, 0) (Nat.le_refl _) ⟨0, rfl, Nat.zero_le _, by simp only; omega, rfl, fun k hk => by omega⟩
    rw [e1]
    cases r with
    | out u => simp only at e2; rw [e2]; rfl
    | ret b => simp only at e2; rw [e2.2, e2.1]; rfl

theorem l08Own_eq (o : S_Oram) (h1 : o.Pos.length ≤ 1073741824) (h2 : o.Stash.length ≤ 1073741824) (h3 : o.Buckets.length ≤ 1048576) (h4 : ∀ y ∈ o.Buckets, y.length ≤ 1073741824) : spec_l08Own.f o = some o := by
  unfold spec_l08Own.f
  have := loopO_run (step := fun s : Int × List (List S_Block) => spec_l08Own.s0 o s.1 s.2) (fun k => ((k : Int), o.Buckets.take k)) o.Buckets.length (r := .out o.Buckets) (fun k hk => by
    have hy := h4 _ (getD_mem hk [])
    simp only [spec_l08Own.s0, decide_eq_true (show (k : Int) < (o.Buckets.length : Int) by omega), cond_true, if_pos (show (0 : Int) ≤ (k : Int) ∧ (k : Int) < (o.Buckets.length : Int) by omega), Int.toNat_natCast]
    rw [if_pos (by simp only [List.length_nil]; omega), if_pos (by simp only [List.length_take, List.length_cons, List.length_nil]; omega), w64_id (by omega) (by omega), take_snoc _ k hk [], List.nil_append]
    rfl) (by
    simp only [spec_l08Own.s0]
    rw [decide_eq_false (by omega), List.take_length]; rfl)
  have t : loopO (fun s : Int × List (List S_Block) => spec_l08Own.s0 o s.1 s.2) (0, ([] : List (List S_Block))) = _ := this
  rw [if_pos (by simp only [List.length_nil]; omega), if_pos (by simp only [List.length_nil]; omega), t]
  rfl

/-! What an access makes of a tree. -/
theorem pathL_rng {x : Int} (hx : 0 ≤ x ∧ x ≤ 7) : ∀ q ∈ pathL x, 0 ≤ q ∧ q ≤ 14 := by
  intro q hq
  simp only [pathL, up1, up2, List.mem_cons, List.not_mem_nil, or_false] at hq
  omega
def gatA (p : List Int) (s : List S_Block) (t : List (List S_Block)) : Nat → List S_Block × List (List S_Block)
  | 0 => (s, t)
  | k + 1 => ((gatA p s t k).1 ++ (gatA p s t k).2.getD (p.getD k 0).toNat [], (gatA p s t k).2.set (p.getD k 0).toNat [])
def evS (q : Int) (x : List S_Block × List (List S_Block)) (b : S_Block) : List S_Block × List (List S_Block) :=
  bif decide (((x.2.getD q.toNat []).length : Int) < 2) && (pathL b.Leaf).contains q then (x.1, x.2.set q.toNat (x.2.getD q.toNat [] ++ [b])) else (x.1 ++ [b], x.2)
def evA (q : Int) (s : List S_Block) (t : List (List S_Block)) : List S_Block × List (List S_Block) := s.foldl (evS q) ([], t)
def evP (p : List Int) (s : List S_Block) (t : List (List S_Block)) : Nat → List S_Block × List (List S_Block)
  | 0 => (s, t)
  | j + 1 => evA (p.getD (p.length - 1 - j) 0) (evP p s t j).1 (evP p s t j).2
def lastV (id : Int) (l : List S_Block) : Int := l.foldl (fun v b => bif b.Id == id then b.Value else v) 0
def otherB (id : Int) (l : List S_Block) : List S_Block := l.filter (fun b => !(b.Id == id))
def gatO (o : S_Oram) (id : Int) : List S_Block × List (List S_Block) := gatA (pathL (o.Pos.getD id.toNat 0)) o.Stash o.Buckets 4
def newB (id : Int) (w : Bool) (v leaf old : Int) : S_Block := ⟨id, leaf, bif w then v else old⟩
def evO (o : S_Oram) (id : Int) (w : Bool) (v leaf : Int) : List S_Block × List (List S_Block) := evP (pathL (o.Pos.getD id.toNat 0)) (otherB id (gatO o id).1 ++ [newB id w v leaf (valueL (gatO o id).1 id)]) (gatO o id).2 4
def accR (o : S_Oram) (id : Int) (w : Bool) (v leaf : Int) : S_Oram × Int × Int := (⟨o.Pos.set id.toNat leaf, (evO o id w v leaf).1, (evO o id w v leaf).2⟩, valueL (gatO o id).1 id, o.Pos.getD id.toNat 0)
/-! Sizes. -/
def smallT (t : List (List S_Block)) : Prop := t.length = 15 ∧ ∀ q, (t.getD q []).length ≤ 2
theorem getD_set_ne {α : Type} (u : List α) (z a : α) {i j : Nat} (h : i ≠ j) : (u.set i a).getD j z = u.getD j z := by
  simp only [List.getD_eq_getElem?_getD, List.getElem?_set_ne h]
theorem getD_set_if {α : Type} (u : List α) (z a : α) (i j : Nat) : (u.set i a).getD j z = if i = j ∧ i < u.length then a else u.getD j z := by
  by_cases h : i = j
  · subst h
    by_cases h2 : i < u.length
    · rw [if_pos ⟨rfl, h2⟩, getD_set_self _ _ _ h2]
    · rw [if_neg (fun h => h2 h.2), List.set_eq_of_length_le (by omega)]
  · rw [if_neg (fun k => h k.1), getD_set_ne _ _ _ h]
theorem smallT.set {t : List (List S_Block)} (h : smallT t) (q : Nat) (u : List S_Block) (hu : u.length ≤ 2) : smallT (t.set q u) :=
  ⟨by rw [List.length_set]; exact h.1, fun j => by
    rw [getD_set_if]
    split
    · exact hu
    · exact h.2 j⟩
theorem gatA_small (p : List Int) (s : List S_Block) (t : List (List S_Block)) (ht : smallT t) : ∀ k, smallT (gatA p s t k).2 ∧ (gatA p s t k).1.length ≤ s.length + 2 * k
  | 0 => ⟨ht, Nat.le_refl _⟩
  | k + 1 => by
    obtain ⟨h1, h2⟩ := gatA_small p s t ht k
    refine ⟨h1.set _ _ (by simp), ?_⟩
    have := h1.2 (p.getD k 0).toNat
    simp only [gatA, List.length_append]; omega
theorem evS_small (q : Int) (x : List S_Block × List (List S_Block)) (b : S_Block) (h : smallT x.2) : smallT (evS q x b).2 ∧ (evS q x b).1.length ≤ x.1.length + 1 := by
  unfold evS
  cases hc : decide (((x.2.getD q.toNat []).length : Int) < 2) && (pathL b.Leaf).contains q
  · exact ⟨h, by simp⟩
  · simp only [Bool.and_eq_true, decide_eq_true_eq] at hc
    exact ⟨h.set _ _ (by simp only [List.length_append, List.length_cons, List.length_nil]; omega), by simp⟩
theorem evF_small (q : Int) : ∀ (s : List S_Block) (x : List S_Block × List (List S_Block)), smallT x.2 → smallT (s.foldl (evS q) x).2 ∧ (s.foldl (evS q) x).1.length ≤ x.1.length + s.length
  | [], x, h => ⟨h, Nat.le_refl _⟩
  | b :: s, x, h => by
    obtain ⟨h1, h2⟩ := evS_small q x b h
    obtain ⟨h3, h4⟩ := evF_small q s _ h1
    exact ⟨h3, by rw [List.foldl_cons, List.length_cons]; omega⟩
theorem evP_small (p : List Int) (s : List S_Block) (t : List (List S_Block)) (ht : smallT t) : ∀ k, smallT (evP p s t k).2 ∧ (evP p s t k).1.length ≤ s.length
  | 0 => ⟨ht, Nat.le_refl _⟩
  | k + 1 => by
    obtain ⟨h1, h2⟩ := evP_small p s t ht k
    obtain ⟨h3, h4⟩ := evF_small (p.getD (p.length - 1 - k) 0) (evP p s t k).1 ([], (evP p s t k).2) h1
    exact ⟨h3, by simp only [List.length_nil] at h4; simp only [evP, evA]; omega⟩
/-! Leaves that are right. -/
def leafsB (l : List S_Block) : Prop := ∀ b ∈ l, 0 ≤ b.Leaf ∧ b.Leaf ≤ 7
theorem evF_leafs (q : Int) : ∀ (s : List S_Block) (x : List S_Block × List (List S_Block)), leafsB s → leafsB x.1 → leafsB (s.foldl (evS q) x).1
  | [], x, _, h => h
  | b :: s, x, h, hx => by
    refine evF_leafs q s _ (fun y hy => h y (List.mem_cons_of_mem _ hy)) ?_
    unfold evS
    cases decide (((x.2.getD q.toNat []).length : Int) < 2) && (pathL b.Leaf).contains q
    · intro y hy
      rcases List.mem_append.1 hy with hy | hy
      · exact hx y hy
      · rw [List.mem_singleton.1 hy]; exact h b (List.mem_cons_self ..)
    · exact hx
theorem evP_leafs (p : List Int) (s : List S_Block) (t : List (List S_Block)) (hs : leafsB s) : ∀ k, leafsB (evP p s t k).1
  | 0 => hs
  | k + 1 => evF_leafs _ _ _ (evP_leafs p s t hs k) (by simp [leafsB])
/-! What is known of a tree that is right. -/
structure OramI (o : S_Oram) : Prop where
  lv : leavesOK o.Pos
  sm : smallT o.Buckets
  on : ∀ q, ∀ b ∈ o.Buckets.getD q [], onB (q : Int) b = true
  ok : ∀ b ∈ o.Stash ++ o.Buckets.flatten, okB o.Pos b = true
  nd : ((o.Stash ++ o.Buckets.flatten).map S_Block.Id).Nodup
theorem goB_iff (pos : List Int) : ∀ (l : List S_Block) (ids : List Int), ids.Nodup → ((goB pos l ids).isSome = true ↔ (∀ b ∈ l, okB pos b = true) ∧ (ids ++ l.map S_Block.Id).Nodup)
  | [], ids, h => by simp [goB, h]
  | b :: l, ids, h => by
    simp only [goB]
    cases hc : okB pos b && !ids.contains b.Id
    · simp only [cond_false, Option.isSome_none, Bool.false_eq_true, false_iff]
      rintro ⟨h1, h2⟩
      rw [h1 b (List.mem_cons_self ..), Bool.true_and] at hc
      have hm : b.Id ∈ ids := by
        have : ids.contains b.Id = true := by revert hc; cases ids.contains b.Id <;> simp
        exact List.contains_iff_mem.1 this
      rw [List.nodup_append] at h2
      exact h2.2.2 b.Id hm b.Id (by simp) rfl
    · simp only [Bool.and_eq_true, Bool.not_eq_true'] at hc
      have hni : b.Id ∉ ids := fun hm => by
        have := List.contains_iff_mem.2 hm
        rw [hc.2] at this; cases this
      have h2 : (ids ++ [b.Id]).Nodup := by
        rw [List.nodup_append]
        refine ⟨h, by simp, fun x hx y hy => ?_⟩
        rw [List.mem_singleton.1 hy]
        intro e; exact hni (e ▸ hx)
      rw [cond_true, goB_iff pos l _ h2]
      simp only [List.map_cons, List.append_assoc, List.singleton_append, List.mem_cons, forall_eq_or_imp, hc.1, true_and]
theorem oramI_iff (o : S_Oram) : oramB o = true ↔ OramI o := by
  unfold oramB
  simp only [Bool.and_eq_true, beq_iff_eq, List.all_eq_true, List.mem_range, decide_eq_true_eq, goB_iff o.Pos _ [] List.nodup_nil, List.nil_append]
  constructor
  · rintro ⟨⟨⟨⟨h1, h2⟩, h3⟩, h4⟩, h5, h6⟩
    refine ⟨⟨by omega, fun y hy => inB_iff.1 (h2 y hy)⟩, ⟨by omega, fun q => ?_⟩, fun q b hb => ?_, h5, h6⟩
    · by_cases hq : q < o.Buckets.length
      · exact (h4 q hq).1
      · rw [List.getD_eq_getElem?_getD, List.getElem?_eq_none (by omega)]; simp
    · by_cases hq : q < o.Buckets.length
      · exact (h4 q hq).2 b hb
      · rw [List.getD_eq_getElem?_getD, List.getElem?_eq_none (by omega)] at hb; simp at hb
  · intro h
    have h1 := h.lv.1
    have h2 := h.sm.1
    exact ⟨⟨⟨⟨by omega, fun y hy => inB_iff.2 (h.lv.2 y hy)⟩, by omega⟩, fun q _ => ⟨h.sm.2 q, h.on q⟩⟩, h.ok, h.nd⟩
theorem OramI.leaf {o : S_Oram} (h : OramI o) {id : Int} (hi : 0 ≤ id ∧ id ≤ 11) : 0 ≤ o.Pos.getD id.toNat 0 ∧ o.Pos.getD id.toNat 0 ≤ 7 := h.lv.2 _ (getD_mem (by have := h.lv.1; omega) 0)
theorem OramI.le {o : S_Oram} (h : OramI o) : o.Stash.length ≤ 12 := by
  have h1 := (goB_iff o.Pos _ [] List.nodup_nil).2 ⟨h.ok, by simpa using h.nd⟩
  obtain ⟨r, hr⟩ := Option.isSome_iff_exists.1 h1
  have := goB_le _ _ _ hr
  rw [List.length_append] at this; omega
theorem pathL_at {x : Int} (hx : 0 ≤ x ∧ x ≤ 7) {k : Nat} (hk : k < 4) : 0 ≤ (pathL x).getD k 0 ∧ (pathL x).getD k 0 ≤ 14 := pathL_rng hx _ (getD_mem hk 0)
/-! Permutations. -/
theorem set_flat : ∀ (t : List (List S_Block)) (q : Nat) (u : List S_Block), q < t.length → ((t.set q u).flatten ++ t.getD q []).Perm (t.flatten ++ u)
  | [], q, u, h => by simp at h
  | x :: r, 0, u, _ => by
    show ((u ++ r.flatten) ++ x).Perm ((x ++ r.flatten) ++ u)
    have h1 : ((u ++ r.flatten) ++ x).Perm (x ++ (u ++ r.flatten)) := List.perm_append_comm
    have h2 : (x ++ (u ++ r.flatten)).Perm (x ++ (r.flatten ++ u)) := List.Perm.append_left _ List.perm_append_comm
    simpa using h1.trans h2
  | x :: r, q + 1, u, h => by
    have ih := set_flat r q u (by simpa using h)
    show ((x ++ (r.set q u).flatten) ++ r.getD q []).Perm ((x ++ r.flatten) ++ u)
    rw [List.append_assoc, List.append_assoc]
    exact List.Perm.append_left _ ih
theorem gatA_perm (p : List Int) (s : List S_Block) (t : List (List S_Block)) (ht : smallT t) (hp : ∀ k, k < p.length → 0 ≤ p.getD k 0 ∧ p.getD k 0 ≤ 14) : ∀ k, k ≤ p.length → ((gatA p s t k).1 ++ (gatA p s t k).2.flatten).Perm (s ++ t.flatten)
  | 0, _ => List.Perm.refl _
  | k + 1, h => by
    have ih := gatA_perm p s t ht hp k (by omega)
    have hl := (gatA_small p s t ht k).1.1
    have hb := hp k (by omega)
    refine List.Perm.trans ?_ ih
    simp only [gatA]
    generalize gatA p s t k = x at hl
    have h1 := set_flat x.2 (p.getD k 0).toNat [] (by omega)
    rw [List.append_nil] at h1
    rw [List.append_assoc]
    exact List.Perm.append_left _ (List.perm_append_comm.trans h1)
theorem evS_perm (q : Int) (x : List S_Block × List (List S_Block)) (b : S_Block) (hl : x.2.length = 15) (hq : 0 ≤ q ∧ q ≤ 14) : ((evS q x b).1 ++ (evS q x b).2.flatten).Perm ((x.1 ++ x.2.flatten) ++ [b]) := by
  unfold evS
  cases decide (((x.2.getD q.toNat []).length : Int) < 2) && (pathL b.Leaf).contains q
  · simp only [cond_false, List.append_assoc]
    exact List.Perm.append_left _ List.perm_append_comm
  · simp only [cond_true, List.append_assoc]
    refine List.Perm.append_left _ ?_
    have h1 := set_flat x.2 q.toNat (x.2.getD q.toNat [] ++ [b]) (by omega)
    have h2 : (x.2.flatten ++ (x.2.getD q.toNat [] ++ [b])).Perm ((x.2.flatten ++ [b]) ++ x.2.getD q.toNat []) := by
      rw [List.append_assoc]
      exact List.Perm.append_left _ List.perm_append_comm
    exact (List.perm_append_right_iff _).1 (h1.trans h2)
theorem evF_perm (q : Int) (hq : 0 ≤ q ∧ q ≤ 14) : ∀ (s : List S_Block) (x : List S_Block × List (List S_Block)), smallT x.2 → ((s.foldl (evS q) x).1 ++ (s.foldl (evS q) x).2.flatten).Perm ((x.1 ++ x.2.flatten) ++ s)
  | [], x, _ => by simp
  | b :: s, x, h => by
    have h1 := evF_perm q hq s _ (evS_small q x b h).1
    have h2 := evS_perm q x b h.1 hq
    refine h1.trans ?_
    have := List.Perm.append_right s h2
    simpa using this
theorem evP_perm (p : List Int) (s : List S_Block) (t : List (List S_Block)) (ht : smallT t) (hp : ∀ k, k < p.length → 0 ≤ p.getD k 0 ∧ p.getD k 0 ≤ 14) : ∀ k, k ≤ p.length → ((evP p s t k).1 ++ (evP p s t k).2.flatten).Perm (s ++ t.flatten)
  | 0, _ => List.Perm.refl _
  | k + 1, h => by
    have ih := evP_perm p s t ht hp k (by omega)
    have h1 := evF_perm _ (hp (p.length - 1 - k) (by omega)) (evP p s t k).1 ([], (evP p s t k).2) (evP_small p s t ht k).1
    refine h1.trans (List.Perm.trans ?_ ih)
    simp only [List.nil_append]
    exact List.perm_append_comm
/-! The block that is sought. -/
theorem find_none {l : List S_Block} {id : Int} (h : id ∉ l.map S_Block.Id) : l.find? (fun b => b.Id == id) = none := by
  rw [List.find?_eq_none]
  intro b hb e
  exact h (List.mem_map.2 ⟨b, hb, by simpa using e⟩)
theorem valueL_none {l : List S_Block} {id : Int} (h : id ∉ l.map S_Block.Id) : valueL l id = 0 := by
  unfold valueL; rw [find_none h]
theorem find_of : ∀ {l : List S_Block}, (l.map S_Block.Id).Nodup → ∀ {b : S_Block}, b ∈ l → l.find? (fun x => x.Id == b.Id) = some b
  | [], _, b, hb => by simp at hb
  | x :: r, hn, b, hb => by
    rw [List.map_cons, List.nodup_cons] at hn
    rw [List.find?_cons]
    rcases List.mem_cons.1 hb with rfl | hb
    · simp
    · have : (x.Id == b.Id) = false := by
        rw [beq_eq_false_iff_ne]
        intro e
        exact hn.1 (e ▸ List.mem_map.2 ⟨b, hb, rfl⟩)
      rw [this]
      exact find_of hn.2 hb
theorem valueL_of {l : List S_Block} (hn : (l.map S_Block.Id).Nodup) {b : S_Block} (hb : b ∈ l) : valueL l b.Id = b.Value := by
  unfold valueL; rw [find_of hn hb]
theorem valueL_perm {l l' : List S_Block} (hp : l.Perm l') (hn : (l.map S_Block.Id).Nodup) (id : Int) : valueL l id = valueL l' id := by
  have hn' : (l'.map S_Block.Id).Nodup := (hp.map _).nodup_iff.1 hn
  by_cases h : id ∈ l.map S_Block.Id
  · obtain ⟨b, hb, rfl⟩ := List.mem_map.1 h
    rw [valueL_of hn hb, valueL_of hn' (hp.subset hb)]
  · rw [valueL_none h, valueL_none (fun h' => h ((hp.map _).symm.subset h'))]
theorem last_eq (id : Int) : ∀ (l : List S_Block) (v : Int), (l.map S_Block.Id).Nodup → l.foldl (fun v b => bif b.Id == id then b.Value else v) v = match l.find? (fun b => b.Id == id) with | some b => b.Value | none => v
  | [], v, _ => rfl
  | x :: r, v, hn => by
    rw [List.map_cons, List.nodup_cons] at hn
    rw [List.foldl_cons, last_eq id r _ hn.2, List.find?_cons]
    cases h : x.Id == id
    · rfl
    · have e : x.Id = id := by simpa using h
      have h2 := find_none (l := r) (id := id) (by rw [← e]; exact hn.1)
      rw [h2]; rfl
theorem lastV_eq {l : List S_Block} (hn : (l.map S_Block.Id).Nodup) (id : Int) : lastV id l = valueL l id := last_eq id l 0 hn
theorem gatO_perm {o : S_Oram} (h : OramI o) {id : Int} (hi : 0 ≤ id ∧ id ≤ 11) : ((gatO o id).1 ++ (gatO o id).2.flatten).Perm (o.Stash ++ o.Buckets.flatten) :=
  gatA_perm _ _ _ h.sm (fun k hk => pathL_at (h.leaf hi) hk) 4 (Nat.le_refl _)
theorem gatO_small {o : S_Oram} (h : OramI o) {id : Int} : smallT (gatO o id).2 ∧ (gatO o id).1.length ≤ 20 := by
  obtain ⟨h1, h2⟩ := gatA_small (pathL (o.Pos.getD id.toNat 0)) o.Stash o.Buckets h.sm 4
  have := h.le
  exact ⟨h1, by unfold gatO; omega⟩
theorem gatO_nodup {o : S_Oram} (h : OramI o) {id : Int} (hi : 0 ≤ id ∧ id ≤ 11) : ((gatO o id).1.map S_Block.Id).Nodup := by
  have h1 := ((gatO_perm h hi).map S_Block.Id).nodup_iff.2 h.nd
  rw [List.map_append, List.nodup_append] at h1
  exact h1.1
theorem gatO_leafs {o : S_Oram} (h : OramI o) {id : Int} (hi : 0 ≤ id ∧ id ≤ 11) : leafsB (gatO o id).1 := fun b hb =>
  okB_leaf h.lv (h.ok b ((gatO_perm h hi).subset (List.mem_append_left _ hb)))
theorem other_leafs {o : S_Oram} (h : OramI o) {id leaf : Int} {w : Bool} {v old : Int} (hi : 0 ≤ id ∧ id ≤ 11) (hlf : 0 ≤ leaf ∧ leaf ≤ 7) : leafsB (otherB id (gatO o id).1 ++ [newB id w v leaf old]) := fun b hb => by
  rcases List.mem_append.1 hb with hb | hb
  · exact gatO_leafs h hi b (List.mem_filter.1 hb).1
  · rw [List.mem_singleton.1 hb]; exact hlf
theorem other_len (id : Int) (l : List S_Block) : (otherB id l).length ≤ l.length := List.length_filter_le _ _
/-- The program of the specification. -/
theorem l08Access_eq (o : S_Oram) (id : Int) (w : Bool) (v leaf : Int) (h : OramI o) (hi : 0 ≤ id ∧ id ≤ 11) (hlf : 0 ≤ leaf ∧ leaf ≤ 7) : spec_l08Access.f o id w v leaf = some (accR o id w v leaf) := by
  have hP := h.lv.1
  have hS := h.le
  have hB := h.sm.1
  have hlx := h.leaf hi
  have ho := l08Own_eq o (by omega) (by omega) (by omega) (fun y hy => by
    obtain ⟨j, hj, rfl⟩ := List.mem_iff_getElem.1 hy
    have := h.sm.2 j
    rw [getD_lt hj] at this; omega)
  have hid : 0 ≤ id ∧ id < (o.Pos.length : Int) := by omega
  unfold spec_l08Access.f
  simp only [ho, Option.bind_some, if_pos hid, l08Path_eq _ hlx]
  have hpl : (pathL (o.Pos.getD id.toNat 0)).length = 4 := rfl
  have hat : ∀ k, k < 4 → 0 ≤ (pathL (o.Pos.getD id.toNat 0)).getD k 0 ∧ (pathL (o.Pos.getD id.toNat 0)).getD k 0 ≤ 14 := fun k hk => pathL_at hlx hk
  rw [if_pos (show ([] : List S_Block).length + o.Stash.length ≤ 1073741824 by simp only [List.length_nil]; omega)]
  obtain ⟨hg2, hg1⟩ := gatO_small h (id := id)
  have hgn := gatO_nodup h hi
  unfold accR evO
  have hgl := other_leafs h (w := w) (v := v) (old := valueL (gatO o id).1 id) hi hlf
  have e0 : loopO (fun s : List S_Block × Int × List (List S_Block) => spec_l08Access.s0 o (pathL (o.Pos.getD id.toNat 0)) s.1 s.2.1 s.2.2) (([] : List S_Block) ++ o.Stash, 0, o.Buckets) = some (.out ((gatO o id).1, (gatO o id).2)) :=
    loopO_run (fun k => ((gatA (pathL (o.Pos.getD id.toNat 0)) o.Stash o.Buckets k).1, (k : Int), (gatA (pathL (o.Pos.getD id.toNat 0)) o.Stash o.Buckets k).2)) 4 (fun k hk => by
      obtain ⟨h1, h2⟩ := gatA_small (pathL (o.Pos.getD id.toNat 0)) o.Stash o.Buckets h.sm k
      have h3 := hat k hk
      have h4 := h1.2 ((pathL (o.Pos.getD id.toNat 0)).getD k 0).toNat
      simp only [spec_l08Access.s0, hpl, decide_eq_true (show (k : Int) < ((4 : Nat) : Int) by omega), cond_true, if_pos (show (0 : Int) ≤ (k : Int) ∧ (k : Int) < ((4 : Nat) : Int) by omega), Int.toNat_natCast]
      rw [if_pos (by omega), if_pos (by omega), w64_id (by omega) (by omega), if_pos (by omega)]
      rfl) (by
      simp only [spec_l08Access.s0, hpl]
      rw [decide_eq_false (by omega)]; rfl)
  rw [e0]
  simp only [Option.bind_some, if_pos hid]
  have e1 : loopO (fun s : Int × List S_Block × Int => spec_l08Access.s1 id (gatO o id).1 s.1 s.2.1 s.2.2) (0, ([] : List S_Block), 0) = some (.out (lastV id (gatO o id).1, otherB id (gatO o id).1)) := by
    have := loopO_run (step := fun s : Int × List S_Block × Int => spec_l08Access.s1 id (gatO o id).1 s.1 s.2.1 s.2.2) (fun k => (lastV id ((gatO o id).1.take k), otherB id ((gatO o id).1.take k), (k : Int))) (gatO o id).1.length (r := .out (lastV id (gatO o id).1, otherB id (gatO o id).1)) (fun k hk => by
      have h5 := other_len id ((gatO o id).1.take k)
      rw [List.length_take] at h5
      simp only [spec_l08Access.s1, decide_eq_true (show (k : Int) < ((gatO o id).1.length : Int) by omega), cond_true, if_pos (show (0 : Int) ≤ (k : Int) ∧ (k : Int) < ((gatO o id).1.length : Int) by omega), Int.toNat_natCast, take_snoc _ k hk z_Block]
      have hb : (0 : Int) ≤ (k : Int) ∧ (k : Int) < ((gatO o id).1.length : Int) := by omega
      rw [w64_id (by omega) (by omega)]
      generalize (gatO o id).1.getD k z_Block = bk
      cases hc : bk.Id == id
      · simp only [cond_false]
        rw [if_pos (by simp only [List.length_cons, List.length_nil]; omega)]
        simp [lastV, otherB, List.filter_append, hc]
      · simp [lastV, otherB, List.filter_append, hc]) (by
      simp only [spec_l08Access.s1, List.take_length]
      rw [decide_eq_false (by omega)]; rfl)
    simpa [lastV, otherB] using this
  rw [e1, lastV_eq hgn]
  have hol := other_len id (gatO o id).1
  have ev : (((bif (!w) then (some (valueL (gatO o id).1 id)) else (some v)) : Option Int)) = some (bif w then v else valueL (gatO o id).1 id) := by cases w <;> rfl
  simp only [Option.bind_some, ev]
  rw [if_pos (by simp only [List.length_cons, List.length_nil]; omega), show w64 (((pathL (o.Pos.getD id.toNat 0)).length : Int) - 1) = 3 from rfl]
  show ((loopO (fun s : List S_Block × Int × List (List S_Block) => spec_l08Access.s2 o (pathL (o.Pos.getD id.toNat 0)) s.1 s.2.1 s.2.2) (otherB id (gatO o id).1 ++ [newB id w v leaf (valueL (gatO o id).1 id)], 3, (gatO o id).2)).bind _) = _
  have hsl : (otherB id (gatO o id).1 ++ [newB id w v leaf (valueL (gatO o id).1 id)]).length ≤ 21 := by simp only [List.length_append, List.length_cons, List.length_nil]; omega
  generalize otherB id (gatO o id).1 ++ [newB id w v leaf (valueL (gatO o id).1 id)] = S at hgl hsl ⊢
  generalize (gatO o id).2 = T at hg2 ⊢
  have e2 : loopO (fun s : List S_Block × Int × List (List S_Block) => spec_l08Access.s2 o (pathL (o.Pos.getD id.toNat 0)) s.1 s.2.1 s.2.2) (S, 3, T) = some (.out ((evP (pathL (o.Pos.getD id.toNat 0)) S T 4).1, (evP (pathL (o.Pos.getD id.toNat 0)) S T 4).2)) :=
    loopO_run (fun k => ((evP (pathL (o.Pos.getD id.toNat 0)) S T k).1, (3 : Int) - (k : Int), (evP (pathL (o.Pos.getD id.toNat 0)) S T k).2)) 4 (fun j hj => by
      obtain ⟨h1, h2⟩ := evP_small (pathL (o.Pos.getD id.toNat 0)) S T hg2 j
      have h3 := evP_leafs (pathL (o.Pos.getD id.toNat 0)) S T hgl j
      have en : ((3 : Int) - (j : Int)).toNat = 4 - 1 - j := by omega
      have ha := hat (4 - 1 - j) (by omega)
      simp only [spec_l08Access.s2, decide_eq_true (show (3 : Int) - (j : Int) ≥ 0 by omega), cond_true, evP, evA, hpl]
      generalize (evP (pathL (o.Pos.getD id.toNat 0)) S T j).1 = s at h2 h3
      generalize (evP (pathL (o.Pos.getD id.toNat 0)) S T j).2 = t at h1
      have hq : (0 : Int) ≤ 3 - (j : Int) ∧ 3 - (j : Int) < ((4 : Nat) : Int) := by omega
      have e3 : loopO (fun u : List S_Block × Int × List (List S_Block) => spec_l08Access.s3 o (pathL (o.Pos.getD id.toNat 0)) s (3 - (j : Int)) u.1 u.2.1 u.2.2) (([] : List S_Block), 0, t) = some (.out ((s.foldl (evS ((pathL (o.Pos.getD id.toNat 0)).getD (4 - 1 - j) 0)) ([], t)).1, (s.foldl (evS ((pathL (o.Pos.getD id.toNat 0)).getD (4 - 1 - j) 0)) ([], t)).2)) := by
        have := loopO_run (step := fun u : List S_Block × Int × List (List S_Block) => spec_l08Access.s3 o (pathL (o.Pos.getD id.toNat 0)) s (3 - (j : Int)) u.1 u.2.1 u.2.2) (fun i => (((s.take i).foldl (evS ((pathL (o.Pos.getD id.toNat 0)).getD (4 - 1 - j) 0)) ([], t)).1, (i : Int), ((s.take i).foldl (evS ((pathL (o.Pos.getD id.toNat 0)).getD (4 - 1 - j) 0)) ([], t)).2)) s.length (r := .out ((s.foldl (evS ((pathL (o.Pos.getD id.toNat 0)).getD (4 - 1 - j) 0)) ([], t)).1, (s.foldl (evS ((pathL (o.Pos.getD id.toNat 0)).getD (4 - 1 - j) 0)) ([], t)).2)) (fun i hi => by
          obtain ⟨h5, h6⟩ := evF_small ((pathL (o.Pos.getD id.toNat 0)).getD (4 - 1 - j) 0) (s.take i) ([], t) h1
          rw [List.length_take, List.length_nil] at h6
          have h7 := h3 _ (getD_mem hi z_Block)
          simp only [spec_l08Access.s3, hpl, if_pos hq, en, if_pos (show 0 ≤ (pathL (o.Pos.getD id.toNat 0)).getD (4 - 1 - j) 0 ∧ (pathL (o.Pos.getD id.toNat 0)).getD (4 - 1 - j) 0 < (o.Buckets.length : Int) by omega), decide_eq_true (show (i : Int) < (s.length : Int) by omega), cond_true, if_pos (show (0 : Int) ≤ (i : Int) ∧ (i : Int) < (s.length : Int) by omega), Int.toNat_natCast, l08On_eq _ _ h7, Option.bind_some, take_snoc s i hi z_Block, List.foldl_append, List.foldl_cons, List.foldl_nil]
          generalize (s.take i).foldl (evS ((pathL (o.Pos.getD id.toNat 0)).getD (4 - 1 - j) 0)) ([], t) = x at h5 h6
          have h8 := h5.2 ((pathL (o.Pos.getD id.toNat 0)).getD (4 - 1 - j) 0).toNat
          rw [if_pos (by simp only [List.length_cons, List.length_nil]; omega), if_pos (by simp only [List.length_cons, List.length_nil]; omega), w64_id (by omega) (by omega)]
          unfold evS
          cases decide (((x.2.getD ((pathL (o.Pos.getD id.toNat 0)).getD (4 - 1 - j) 0).toNat []).length : Int) < 2)
          · rfl
          · cases (pathL (s.getD i z_Block).Leaf).contains ((pathL (o.Pos.getD id.toNat 0)).getD (4 - 1 - j) 0) <;> rfl) (by
          simp only [spec_l08Access.s3, List.take_length]
          rw [decide_eq_false (by omega)]; rfl)
        simpa using this
      rw [e3]
      simp only [Option.bind_some]
      rw [w64_id (by omega) (by omega), show (3 : Int) - (j : Int) - 1 = 3 - ((j + 1 : Nat) : Int) by omega]) (by
      simp only [spec_l08Access.s2]
      rw [decide_eq_false (by omega)]; rfl)
  rw [e2]
  rfl

theorem within_eq (x lo hi : Int) : impl_within.f x lo hi = some (inB x lo hi) := by
  unfold impl_within.f inB; cases decide (lo ≤ x) <;> rfl

theorem isLeaf_eq (x : Int) : impl_isLeaf.f x = some (inB x 0 7) := by unfold impl_isLeaf.f; rw [within_eq]; rfl

theorem idx_slices_IndexFunc_int_int (l : List Int) (q : Int → Option Bool) (p : Int → Bool) (h : l.length ≤ 1073741824) (hq : ∀ x, x ∈ l → q x = some (p x)) : slices_IndexFunc_int_int.f l q = some (idxOf l 0 p) := by
  unfold slices_IndexFunc_int_int.f idxOf
  have := loopO_find (step := fun s => slices_IndexFunc_int_int.s0 l q s) (fun k => (k : Int)) l.length (fun k => p (l.getD k 0)) (fun k => (k : Int)) (t := ()) (fun k hk => by
    simp only [slices_IndexFunc_int_int.s0, decide_eq_true (show (k : Int) < (l.length : Int) by omega), cond_true, if_pos (show (0 : Int) ≤ (k : Int) ∧ (k : Int) < (l.length : Int) by omega), Int.toNat_natCast, hq _ (getD_mem hk _), Option.bind_some]
    rw [w64_id (by omega) (by omega)]
    cases p (l.getD k 0) <;> rfl) (by
    simp only [slices_IndexFunc_int_int.s0]
    rw [decide_eq_false (by omega)]; rfl)
  rw [show ((0 : Int)) = ((0 : Nat) : Int) from rfl, this]
  cases (List.range l.length).find? (fun k => p (l.getD k 0)) <;> rfl

theorem any_slices_ContainsFunc_int_int (l : List Int) (q : Int → Option Bool) (p : Int → Bool) (h : l.length ≤ 1073741824) (hq : ∀ x, x ∈ l → q x = some (p x)) : slices_ContainsFunc_int_int.f l q = some (l.any p) := by
  unfold slices_ContainsFunc_int_int.f
  rw [idx_slices_IndexFunc_int_int l q p h hq, ← idxOf_any l 0 p]
  rfl

theorem all_impl_areAll_int (l : List Int) (q : Int → Option Bool) (p : Int → Bool) (h : l.length ≤ 1073741824) (hq : ∀ x, x ∈ l → q x = some (p x)) : impl_areAll_int.f l q = some (l.all p) := by
  unfold impl_areAll_int.f
  rw [any_slices_ContainsFunc_int_int l _ (fun x => !p x) h (fun x hx => by unfold impl_areAll_int__c1.f; rw [hq x hx]; rfl)]
  simp only [Option.bind_some, List.any_eq_not_all_not, Bool.not_not]

theorem idx_slices_IndexFunc_impl_Block_impl_Block (l : List S_Block) (q : S_Block → Option Bool) (p : S_Block → Bool) (h : l.length ≤ 1073741824) (hq : ∀ x, x ∈ l → q x = some (p x)) : slices_IndexFunc_impl_Block_impl_Block.f l q = some (idxOf l z_Block p) := by
  unfold slices_IndexFunc_impl_Block_impl_Block.f idxOf
  have := loopO_find (step := fun s => slices_IndexFunc_impl_Block_impl_Block.s0 l q s) (fun k => (k : Int)) l.length (fun k => p (l.getD k z_Block)) (fun k => (k : Int)) (t := ()) (fun k hk => by
    simp only [slices_IndexFunc_impl_Block_impl_Block.s0, decide_eq_true (show (k : Int) < (l.length : Int) by omega), cond_true, if_pos (show (0 : Int) ≤ (k : Int) ∧ (k : Int) < (l.length : Int) by omega), Int.toNat_natCast, hq _ (getD_mem hk _), Option.bind_some]
    rw [w64_id (by omega) (by omega)]
    cases p (l.getD k z_Block) <;> rfl) (by
    simp only [slices_IndexFunc_impl_Block_impl_Block.s0]
    rw [decide_eq_false (by omega)]; rfl)
  rw [show ((0 : Int)) = ((0 : Nat) : Int) from rfl, this]
  cases (List.range l.length).find? (fun k => p (l.getD k z_Block)) <;> rfl

theorem any_slices_ContainsFunc_impl_Block_impl_Block (l : List S_Block) (q : S_Block → Option Bool) (p : S_Block → Bool) (h : l.length ≤ 1073741824) (hq : ∀ x, x ∈ l → q x = some (p x)) : slices_ContainsFunc_impl_Block_impl_Block.f l q = some (l.any p) := by
  unfold slices_ContainsFunc_impl_Block_impl_Block.f
  rw [idx_slices_IndexFunc_impl_Block_impl_Block l q p h hq, ← idxOf_any l z_Block p]
  rfl

theorem all_impl_areAll_impl_Block (l : List S_Block) (q : S_Block → Option Bool) (p : S_Block → Bool) (h : l.length ≤ 1073741824) (hq : ∀ x, x ∈ l → q x = some (p x)) : impl_areAll_impl_Block.f l q = some (l.all p) := by
  unfold impl_areAll_impl_Block.f
  rw [any_slices_ContainsFunc_impl_Block_impl_Block l _ (fun x => !p x) h (fun x hx => by unfold impl_areAll_impl_Block__c1.f; rw [hq x hx]; rfl)]
  simp only [Option.bind_some, List.any_eq_not_all_not, Bool.not_not]

theorem rev4 (a b c d : Int) : slices_Reverse_int_int.f [a, b, c, d] = some [d, c, b, a] := by
  unfold slices_Reverse_int_int.f
  have h1 : slices_Reverse_int_int.s0 [a, b, c, d] [a, b, c, d] 0 3 = some (.inl ([d, b, c, a], 1, 2)) := rfl
  have h2 : slices_Reverse_int_int.s0 [a, b, c, d] [d, b, c, a] 1 2 = some (.inl ([d, c, b, a], 2, 1)) := rfl
  have h3 : slices_Reverse_int_int.s0 [a, b, c, d] [d, c, b, a] 2 1 = some (.inr (.out [d, c, b, a])) := rfl
  have hi : w64 ((([a, b, c, d] : List Int).length : Int) - 1) = 3 := rfl
  rw [hi, loopO_next (s := ([a, b, c, d], 0, 3)) h1, loopO_next (s := ([d, b, c, a], 1, 2)) h2, loopO_stop (s := ([d, c, b, a], 2, 1)) h3]
  rfl

theorem pathOf_step (l : List Int) (a : Int) (ha : 1 ≤ a ∧ a ≤ 100) (hl : l.length ≤ 100) : impl_pathOf.s0 l a = some (.inl (l ++ [a], (a - 1) / 2)) := by
  have ht : Int.tdiv (a - 1) 2 = (a - 1) / 2 := Int.tdiv_eq_ediv_of_nonneg (by omega)
  have hw : IntKind.wrap .i64 (Int.tdiv (a - 1) 2) = (a - 1) / 2 := by rw [ht]; exact w64_id (by omega) (by omega)
  simp only [impl_pathOf.s0]
  rw [if_pos (by simp only [List.length_cons, List.length_nil]; omega), show (a == 0) = false by simp only [beq_eq_false_iff_ne]; omega, w64_id (x := a - 1) (by omega) (by omega), hw]
  rfl
theorem pathOf_eq (x : Int) (hx : 0 ≤ x ∧ x ≤ 7) : impl_pathOf.f x = some (pathL x) := by
  unfold impl_pathOf.f
  have e1 : (7 + x - 1) / 2 = up1 x := by unfold up1; congr 1; omega
  have u1 : 3 ≤ up1 x ∧ up1 x ≤ 6 := by unfold up1; omega
  have u2 : 1 ≤ up2 x ∧ up2 x ≤ 2 := by unfold up2; omega
  have e3 : (up2 x - 1) / 2 = 0 := by omega
  have h1 := pathOf_step [] (7 + x) (by omega) (by simp)
  have h2 := pathOf_step [7 + x] (up1 x) (by omega) (by simp)
  have h3 := pathOf_step [7 + x, up1 x] (up2 x) (by omega) (by simp)
  rw [e1] at h1
  rw [show (up1 x - 1) / 2 = up2 x from rfl] at h2
  rw [e3] at h3
  have h4 : impl_pathOf.s0 [7 + x, up1 x, up2 x] 0 = some (.inr (.ret (pathL x))) := by
    simp only [impl_pathOf.s0]
    rw [if_pos (by simp)]
    have := rev4 (7 + x) (up1 x) (up2 x) 0
    simp only [List.cons_append, List.nil_append, BEq.rfl, cond_true, this, Option.bind_some]
    rfl
  rw [w64_id (by omega) (by omega)]
  rw [loopO_next (step := fun s : List Int × Int => impl_pathOf.s0 s.1 s.2) (s := ([], 7 + x)) h1, loopO_next (step := fun s : List Int × Int => impl_pathOf.s0 s.1 s.2) (s := ([] ++ [7 + x], up1 x)) h2, loopO_next (step := fun s : List Int × Int => impl_pathOf.s0 s.1 s.2) (s := ([7 + x] ++ [up1 x], up2 x)) h3, loopO_stop (step := fun s : List Int × Int => impl_pathOf.s0 s.1 s.2) (s := ([7 + x, up1 x] ++ [up2 x], 0)) h4]
  rfl

theorem index_eq (l : List Int) (x : Int) (h : l.length ≤ 1073741824) : ∃ r, slices_Index_int_int.f l x = some r ∧ (decide (r ≥ 0)) = l.any (fun y => x == y) := by
  unfold slices_Index_int_int.f
  obtain ⟨r, h1, h2⟩ := loopO_wf (step := fun s => slices_Index_int_int.s0 l x s) (fun s => ∃ i : Nat, s = (i : Int) ∧ i ≤ l.length ∧ (l.take i).any (fun y => x == y) = false) (fun r => match r with | .out _ => l.any (fun y => x == y) = false | .ret r => 0 ≤ r ∧ l.any (fun y => x == y) = true) (fun s => (l.length - s).toNat) (fun s hI => by
    obtain ⟨i, rfl, hi, ha⟩ := hI
    by_cases hlt : i < l.length
    · simp only [slices_Index_int_int.s0, decide_eq_true (show (i : Int) < (l.length : Int) by omega), cond_true, if_pos (show (0 : Int) ≤ (i : Int) ∧ (i : Int) < (l.length : Int) by omega), Int.toNat_natCast]
      cases hc : (x == l.getD i 0)
      · rw [w64_id (by omega) (by omega)]
        refine .inl ⟨_, rfl, ⟨i + 1, by omega, by omega, ?_⟩, by omega⟩
        rw [take_snoc l i hlt 0, List.any_append, ha]
        simp only [List.any_cons, List.any_nil, hc, Bool.or_false]
      · refine .inr ⟨_, rfl, by omega, ?_⟩
        rw [List.any_eq_true]
        exact ⟨_, getD_mem hlt 0, hc⟩
    · have e : i = l.length := by omega
      subst e
      rw [List.take_length] at ha
      simp only [slices_Index_int_int.s0]
      rw [decide_eq_false (by omega)]
      exact .inr ⟨_, rfl, ha⟩) _ 0 (Nat.le_refl _) ⟨0, rfl, Nat.zero_le _, rfl⟩
  rw [h1]
  cases r with
  | out u => exact ⟨_, rfl, by rw [h2]; rfl⟩
  | ret r => exact ⟨_, rfl, by rw [h2.2]; exact decide_eq_true h2.1⟩
theorem contains_eq (l : List Int) (x : Int) (h : l.length ≤ 1073741824) : slices_Contains_int_int.f l x = some (l.any (fun y => x == y)) := by
  obtain ⟨r, h1, h2⟩ := index_eq l x h
  unfold slices_Contains_int_int.f
  rw [h1]
  simp only [Option.bind_some, h2]

theorem oramC1_eq (b : S_Block) (i : Int) : impl_OramOK_c1.f b i = some (onB i b) := by
  unfold impl_OramOK_c1.f onB
  simp only [isLeaf_eq, Option.bind_some]
  cases h : inB b.Leaf 0 7
  · rfl
  · have hx := inB_iff.1 h
    unfold impl_isOnPath.f
    simp only [cond_true, pathOf_eq b.Leaf hx, contains_eq (pathL b.Leaf) i (by simp [pathL]), Option.bind_some, Bool.true_and]
    congr 1

theorem concat_eq (l : List (List S_Block)) (hl : l.length ≤ 1048576) (h2 : ∀ k, k < l.length → (l.getD k []).length ≤ 2) : slices_Concat_impl_Block_impl_Block.f l = some l.flatten := by
  unfold slices_Concat_impl_Block_impl_Block.f
  have hb : ∀ k, k ≤ l.length → (l.take k).flatten.length ≤ 2 * k := by
    intro k
    induction k with
    | zero => intro _; simp
    | succ k ih =>
      intro hk
      rw [take_flat l k (by omega), List.length_append]
      have := ih (by omega); have := h2 k (by omega); omega
  have r0 := loopO_run (step := fun s : Int × Int => slices_Concat_impl_Block_impl_Block.s0 l s.1 s.2) (fun k => (((l.take k).flatten.length : Int), (k : Int))) l.length (r := .out (l.flatten.length : Int)) (fun k hk => by
    have h3 := hb k (by omega); have h4 := h2 k hk
    simp only [slices_Concat_impl_Block_impl_Block.s0, decide_eq_true (show (k : Int) < (l.length : Int) by omega), cond_true, if_pos (show (0 : Int) ≤ (k : Int) ∧ (k : Int) < (l.length : Int) by omega), Int.toNat_natCast]
    have e5 : w64 (((l.take k).flatten.length : Int) + ((l.getD k []).length : Int)) = ((l.take k).flatten.length : Int) + ((l.getD k []).length : Int) := w64_id (by omega) (by omega)
    rw [decide_eq_false (show ¬ w64 (((l.take k).flatten.length : Int) + ((l.getD k []).length : Int)) < 0 by rw [e5]; omega), e5, w64_id (by omega) (by omega), take_flat l k hk, List.length_append]
    simp) (by
    simp only [slices_Concat_impl_Block_impl_Block.s0]
    rw [decide_eq_false (by omega), List.take_length]; rfl)
  have r1 := loopO_run (step := fun s : List S_Block × Int => slices_Concat_impl_Block_impl_Block.s1 l s.1 s.2) (fun k => ((l.take k).flatten, (k : Int))) l.length (r := .out l.flatten) (fun k hk => by
    have h3 := hb k (by omega); have h4 := h2 k hk
    simp only [slices_Concat_impl_Block_impl_Block.s1, decide_eq_true (show (k : Int) < (l.length : Int) by omega), cond_true, if_pos (show (0 : Int) ≤ (k : Int) ∧ (k : Int) < (l.length : Int) by omega), Int.toNat_natCast]
    rw [if_pos (by omega), w64_id (by omega) (by omega), take_flat l k hk]
    rfl) (by
    simp only [slices_Concat_impl_Block_impl_Block.s1]
    rw [decide_eq_false (by omega), List.take_length]; rfl)
  have r0' : loopO (fun s : Int × Int => slices_Concat_impl_Block_impl_Block.s0 l s.1 s.2) (0, 0) = _ := r0
  have r1' : loopO (fun s : List S_Block × Int => slices_Concat_impl_Block_impl_Block.s1 l s.1 s.2) (([] : List S_Block), 0) = _ := r1
  have h5 := hb l.length (Nat.le_refl _)
  rw [List.take_length] at h5
  rw [r0']
  simp only [Option.bind_some]
  rw [if_pos (by omega), r1']; rfl

theorem isId_eq (x : Int) : impl_isId.f x = some (inB x 0 11) := by unfold impl_isId.f; rw [within_eq]; rfl

theorem isValue_eq (x : Int) : impl_isValue.f x = some (inB x 0 999999) := by unfold impl_isValue.f; rw [within_eq]; rfl

theorem isBlock_eq (b : S_Block) : impl_isBlock.f b = some (rngB b) := by
  unfold impl_isBlock.f impl_isId.f impl_isLeaf.f rngB
  simp only [within_eq, isValue_eq, Option.bind_some]
  cases inB b.Id 0 11 <;> cases inB b.Leaf 0 7 <;> cases inB b.Value 0 999999 <;> rfl

theorem okB_split {pos : List Int} {b : S_Block} (hp : leavesOK pos) : okB pos b = (rngB b && (b.Leaf == pos.getD b.Id.toNat 0)) := by
  cases h : inB b.Id 0 11
  · simp [okB, rngB, h]
  · have hi := inB_iff.1 h
    have hl := hp.1
    have := hp.2 _ (getD_mem (show b.Id.toNat < pos.length by omega) 0)
    cases he : (b.Leaf == pos.getD b.Id.toNat 0)
    · have : (pos.getD b.Id.toNat 0 == b.Leaf) = false := by
        simp only [beq_eq_false_iff_ne] at he ⊢; exact fun e => he e.symm
      simp only [okB, this, Bool.false_and, Bool.and_false]
    · have e : b.Leaf = pos.getD b.Id.toNat 0 := by simpa using he
      have h7 : inB b.Leaf 0 7 = true := inB_iff.2 (by omega)
      simp only [okB, rngB, h, h7, ← e, BEq.rfl, Bool.true_and, Bool.and_true]
theorem oram_seen (o : S_Oram) (hp : leavesOK o.Pos) (all : List S_Block) (hl : all.length ≤ 2097152) : ∃ r, loopO (fun s : List Bool × Int => impl_OramOK.s1 o all s.1 s.2) (List.replicate 12 (false : Bool), 0) = some r ∧ (match r with | .out _ => (goB o.Pos all []).isSome = true | .ret b => b = false ∧ (goB o.Pos all []).isSome = false) := by
  have hpl := hp.1
  refine loopO_wf (step := fun s : List Bool × Int => impl_OramOK.s1 o all s.1 s.2) (fun s => ∃ (i : Nat) (ids : List Int), s.2 = (i : Int) ∧ i ≤ all.length ∧ s.1.length = 12 ∧ (∀ j : Nat, j < 12 → s.1.getD j false = ids.contains (j : Int)) ∧ goB o.Pos (all.drop i) ids = goB o.Pos all []) _ (fun s => (all.length - s.2).toNat) (fun s hI => ?_) _ _ (Nat.le_refl _) ⟨0, [], rfl, Nat.zero_le _, rfl, fun j hj => by
      rw [List.getD_eq_getElem?_getD, List.getElem?_replicate, if_pos hj]; rfl, rfl⟩
  obtain ⟨seen, k⟩ := s
  obtain ⟨i, ids, hk, hi, hs, hj, hg⟩ := hI
  simp only at hk hs hj hg
  subst hk
  by_cases hlt : i < all.length
  · have hd : all.drop i = all.getD i z_Block :: all.drop (i + 1) := by rw [getD_lt hlt]; exact List.drop_eq_getElem_cons hlt
    rw [hd] at hg
    simp only [goB, okB_split hp] at hg
    generalize hb : all.getD i z_Block = b at hg
    simp only [impl_OramOK.s1, hb, decide_eq_true (show (i : Int) < (all.length : Int) by omega), cond_true, if_pos (show (0 : Int) ≤ (i : Int) ∧ (i : Int) < (all.length : Int) by omega), Int.toNat_natCast, isBlock_eq, Option.bind_some]
    cases hr : rngB b
    · rw [hr] at hg
      simp only [Bool.false_and, cond_false] at hg
      exact .inr ⟨_, rfl, rfl, by rw [← hg]; rfl⟩
    · have hr' := hr
      unfold rngB at hr'
      simp only [Bool.and_eq_true, inB_iff] at hr'
      rw [hr] at hg
      simp only [Bool.not_true, cond_false]
      rw [if_pos (by omega)]
      cases he : (b.Leaf == o.Pos.getD b.Id.toNat 0)
      · rw [he] at hg
        simp only [Bool.and_false, Bool.false_and, cond_false] at hg
        simp only [bne, he, Bool.not_false, cond_true, Option.bind_some]
        exact .inr ⟨_, rfl, rfl, by rw [← hg]; rfl⟩
      · rw [he] at hg
        simp only [bne, he, Bool.not_true, cond_false]
        rw [if_pos (by omega)]
        have hc := hj b.Id.toNat (by omega)
        rw [show ((b.Id.toNat : Nat) : Int) = b.Id by omega] at hc
        simp only [hc, Option.bind_some]
        cases hcc : ids.contains b.Id
        · rw [hcc] at hg
          simp only [Bool.not_false, Bool.and_true, cond_true] at hg
          simp only [cond_false]
          rw [if_pos (by omega), w64_id (by omega) (by omega)]
          refine .inl ⟨_, rfl, ⟨i + 1, ids ++ [b.Id], by simp only; omega, by omega, by simp only [List.length_set]; exact hs, fun j hj2 => ?_, hg⟩, by simp only; omega⟩
          simp only [List.getD_eq_getElem?_getD, List.getElem?_set]
          have hja := hj j hj2
          rw [List.getD_eq_getElem?_getD] at hja
          rw [Bool.eq_iff_iff]
          by_cases ej : b.Id.toNat = j
          · rw [if_pos ej, if_pos (by omega)]
            simp only [Option.getD_some, List.contains_iff_mem, List.mem_append, List.mem_singleton, true_iff]
            exact .inr (by omega)
          · rw [if_neg ej, hja]
            simp only [List.contains_iff_mem, List.mem_append, List.mem_singleton]
            exact ⟨.inl, fun h => h.elim id (fun e => by omega)⟩
        · rw [hcc] at hg
          simp only [Bool.not_true, Bool.and_false, cond_false] at hg
          simp only [cond_true]
          exact .inr ⟨_, rfl, rfl, by rw [← hg]; rfl⟩
  · have e : i = all.length := by omega
    subst e
    rw [List.drop_length] at hg
    simp only [impl_OramOK.s1]
    rw [decide_eq_false (by omega)]
    exact .inr ⟨_, rfl, by rw [← hg]; rfl⟩
theorem impl_OramOK_eq (o : S_Oram) (h1 : o.Pos.length ≤ 1073741824) (h2 : o.Stash.length ≤ 1048576) (h3 : ∀ y, y ∈ o.Buckets → y.length ≤ 1048576) : impl_OramOK.f o = some (oramB o) := by
  unfold impl_OramOK.f oramB
  simp only [bne, all_impl_areAll_int o.Pos impl_isLeaf.f (fun x => inB x 0 7) h1 (fun x _ => isLeaf_eq x), Option.bind_some]
  cases hp : ((o.Pos.length : Int) == 12)
  · rfl
  cases hl : o.Pos.all (fun x => inB x 0 7)
  · rfl
  cases hb : ((o.Buckets.length : Int) == 15)
  · rfl
  have hp' : o.Pos.length = 12 := by have : (o.Pos.length : Int) = 12 := by simpa using hp
                                     omega
  have hb' : o.Buckets.length = 15 := by have : (o.Buckets.length : Int) = 15 := by simpa using hb
                                         omega
  have hlv : leavesOK o.Pos := ⟨hp', fun y hy => inB_iff.1 (List.all_eq_true.1 hl y hy)⟩
  simp only [Bool.not_true, cond_false, Bool.true_and, Option.bind_some]
  have := loopO_scan (step := fun s => impl_OramOK.s0 o s) (fun k => (k : Int)) o.Buckets.length (fun i => decide ((o.Buckets.getD i []).length ≤ 2) && (o.Buckets.getD i []).all (onB i)) (b := false) (t := ()) (fun k hk => by
    have hy := h3 _ (getD_mem hk [])
    simp only [impl_OramOK.s0, decide_eq_true (show (k : Int) < (o.Buckets.length : Int) by omega), cond_true, if_pos (show (0 : Int) ≤ (k : Int) ∧ (k : Int) < (o.Buckets.length : Int) by omega), Int.toNat_natCast, all_impl_areAll_impl_Block (o.Buckets.getD k []) (fun z0 => impl_OramOK_c1.f z0 (k : Int)) (onB k) (by omega) (fun x _ => oramC1_eq x k), Option.bind_some]
    rw [w64_id (by omega) (by omega)]
    by_cases c : ((o.Buckets.getD k []).length : Int) > 2
    · rw [decide_eq_true c, decide_eq_false (show ¬ (o.Buckets.getD k []).length ≤ 2 by omega)]; rfl
    · rw [decide_eq_false c, decide_eq_true (show (o.Buckets.getD k []).length ≤ 2 by omega)]
      cases (o.Buckets.getD k []).all (onB k) <;> rfl) (by
    simp only [impl_OramOK.s0]
    rw [decide_eq_false (by omega)]; rfl)
  have this : loopO (fun s => impl_OramOK.s0 o s) 0 = _ := this
  rw [this]
  cases hall : (List.range o.Buckets.length).all (fun i => decide ((o.Buckets.getD i []).length ≤ 2) && (o.Buckets.getD i []).all (onB i))
  · rfl
  have h22 : ∀ k, k < o.Buckets.length → (o.Buckets.getD k []).length ≤ 2 := fun k hk => by
    have := List.all_eq_true.1 hall k (List.mem_range.2 hk)
    simp only [Bool.and_eq_true, decide_eq_true_eq] at this
    exact this.1
  have hfl : o.Buckets.flatten.length ≤ 30 := by
    have hb2 : ∀ k, k ≤ o.Buckets.length → (o.Buckets.take k).flatten.length ≤ 2 * k := by
      intro k
      induction k with
      | zero => intro _; simp
      | succ k ih =>
        intro hk
        rw [take_flat o.Buckets k (by omega), List.length_append]
        have := ih (by omega); have := h22 k (by omega); omega
    have := hb2 o.Buckets.length (Nat.le_refl _)
    rw [List.take_length] at this; omega
  have ea : impl_Oram_all.f o = some (o.Stash ++ o.Buckets.flatten) := by
    unfold impl_Oram_all.f
    rw [concat_eq o.Buckets (by omega) h22, show slices_Clone_impl_Block_impl_Block.f o.Stash = some o.Stash by unfold slices_Clone_impl_Block_impl_Block.f; rw [if_pos (by omega)]]
    simp only [Option.bind_some]
    rw [if_pos (by omega)]
  obtain ⟨r, e1, e2⟩ := oram_seen o hlv (o.Stash ++ o.Buckets.flatten) (by rw [List.length_append]; omega)
  simp only [cond_true, Option.bind_some, ea, e1]
  cases r with
  | out u => simp only at e2; simp [e2]
  | ret b => simp only at e2; obtain ⟨rfl, e3⟩ := e2; simp [e3]

theorem oramOwn_eq (o : S_Oram) (h1 : o.Pos.length ≤ 1073741824) (h2 : o.Stash.length ≤ 1073741824) (h3 : o.Buckets.length ≤ 1048576) (h4 : ∀ y ∈ o.Buckets, y.length ≤ 1073741824) : impl_Oram_own.f o = some o := by
  unfold impl_Oram_own.f slices_Clone_int_int.f slices_Clone_impl_Block_impl_Block.f
  rw [if_pos h1, if_pos h2]
  simp only [Option.bind_some]
  have := loopO_run (step := fun s : Int × List (List S_Block) => impl_Oram_own.s0 o s.1 s.2) (fun k => ((k : Int), o.Buckets.take k)) o.Buckets.length (r := .out o.Buckets) (fun k hk => by
    have hy := h4 _ (getD_mem hk [])
    simp only [impl_Oram_own.s0, slices_Clone_impl_Block_impl_Block.f, decide_eq_true (show (k : Int) < (o.Buckets.length : Int) by omega), cond_true, if_pos (show (0 : Int) ≤ (k : Int) ∧ (k : Int) < (o.Buckets.length : Int) by omega), Int.toNat_natCast, if_pos hy, Option.bind_some]
    rw [if_pos (by simp only [List.length_take, List.length_cons, List.length_nil]; omega), w64_id (by omega) (by omega), take_snoc _ k hk []]
    rfl) (by
    simp only [impl_Oram_own.s0, List.take_length]
    rw [decide_eq_false (by omega)]; rfl)
  have this2 : loopO (fun s : Int × List (List S_Block) => impl_Oram_own.s0 o s.1 s.2) (0, ([] : List (List S_Block))) = _ := this
  rw [this2]; rfl

theorem onPath_eq (q x : Int) (hx : 0 ≤ x ∧ x ≤ 7) : impl_isOnPath.f q x = some ((pathL x).contains q) := by
  unfold impl_isOnPath.f
  simp only [pathOf_eq x hx, contains_eq (pathL x) q (by simp [pathL]), Option.bind_some, List.contains_eq_any_beq]
theorem other_all {id : Int} : ∀ {l : List S_Block}, id ∉ l.map S_Block.Id → otherB id l = l
  | [], _ => rfl
  | x :: r, h => by
    rw [List.map_cons, List.mem_cons, not_or] at h
    have e : (x.Id == id) = false := by rw [beq_eq_false_iff_ne]; exact fun e => h.1 e.symm
    have ih := other_all h.2
    unfold otherB at ih ⊢
    rw [List.filter_cons, e]
    simp [ih]
/-- The first block of an id: the only one. -/
theorem other_del (l : List S_Block) (hn : (l.map S_Block.Id).Nodup) (k : Nat) (hk : k < l.length) : delL l k (k + 1) = otherB (l.getD k z_Block).Id l := by
  have hs : l = l.take k ++ (l.getD k z_Block :: l.drop (k + 1)) := by
    rw [getD_lt hk, ← List.drop_eq_getElem_cons hk, List.take_append_drop]
  generalize l.getD k z_Block = b at hs ⊢
  have hn2 := hn
  rw [hs, List.map_append, List.map_cons, List.nodup_append, List.nodup_cons] at hn2
  obtain ⟨_, ⟨h2, _⟩, h3⟩ := hn2
  have h1 : b.Id ∉ (l.take k).map S_Block.Id := fun hm => h3 _ hm _ (List.mem_cons_self ..) rfl
  have e1 := other_all h1
  have e2 := other_all h2
  have e3 : otherB b.Id l = otherB b.Id (l.take k) ++ (otherB b.Id [b] ++ otherB b.Id (l.drop (k + 1))) := by
    conv => lhs; rw [hs]
    simp only [otherB, List.filter_append, List.filter_cons, List.filter_nil]
    split <;> simp
  rw [e3, e1, e2]
  simp [otherB, delL]
theorem idx_cases (l : List S_Block) (id : Int) : (idxOf l z_Block (fun b => b.Id == id) = -1 ∧ id ∉ l.map S_Block.Id) ∨ ∃ k : Nat, k < l.length ∧ idxOf l z_Block (fun b => b.Id == id) = (k : Int) ∧ (l.getD k z_Block).Id = id := by
  unfold idxOf
  cases h : (List.range l.length).find? (fun k => (l.getD k z_Block).Id == id) with
  | none =>
    refine .inl ⟨rfl, fun hm => ?_⟩
    obtain ⟨b, hb, e⟩ := List.mem_map.1 hm
    obtain ⟨j, hj, rfl⟩ := List.mem_iff_getElem.1 hb
    rw [List.find?_eq_none] at h
    have := h j (List.mem_range.2 hj)
    rw [getD_lt hj] at this
    exact this (by simpa using e)
  | some k =>
    have h1 := List.find?_some h
    have h2 := List.mem_of_find?_eq_some h
    exact .inr ⟨k, List.mem_range.1 h2, rfl, by simpa using h1⟩
theorem oramAccess_eq (o : S_Oram) (id : Int) (w : Bool) (v leaf : Int) (h : OramI o) (hi : 0 ≤ id ∧ id ≤ 11) (hlf : 0 ≤ leaf ∧ leaf ≤ 7) : impl_Oram_access.f o id w v leaf = some (accR o id w v leaf) := by
  have hP := h.lv.1
  have hS := h.le
  have hB := h.sm.1
  have hlx := h.leaf hi
  have ho := oramOwn_eq o (by omega) (by omega) (by omega) (fun y hy => by
    obtain ⟨j, hj, rfl⟩ := List.mem_iff_getElem.1 hy
    have := h.sm.2 j
    rw [getD_lt hj] at this; omega)
  have hid : 0 ≤ id ∧ id < (o.Pos.length : Int) := by omega
  unfold impl_Oram_access.f
  simp only [ho, Option.bind_some, if_pos hid, pathOf_eq _ hlx]
  have hpl : (pathL (o.Pos.getD id.toNat 0)).length = 4 := rfl
  have hat : ∀ k, k < 4 → 0 ≤ (pathL (o.Pos.getD id.toNat 0)).getD k 0 ∧ (pathL (o.Pos.getD id.toNat 0)).getD k 0 ≤ 14 := fun k hk => pathL_at hlx hk
  obtain ⟨hg2, hg1⟩ := gatO_small h (id := id)
  have hgn := gatO_nodup h hi
  unfold accR evO
  have hgl := other_leafs h (w := w) (v := v) (old := valueL (gatO o id).1 id) hi hlf
  have e0 : loopO (fun s : Int × List (List S_Block) × List S_Block => impl_Oram_access.s0 o (pathL (o.Pos.getD id.toNat 0)) s.1 s.2.1 s.2.2) (0, o.Buckets, o.Stash) = some (.out ((gatO o id).2, (gatO o id).1)) :=
    loopO_run (fun k => ((k : Int), (gatA (pathL (o.Pos.getD id.toNat 0)) o.Stash o.Buckets k).2, (gatA (pathL (o.Pos.getD id.toNat 0)) o.Stash o.Buckets k).1)) 4 (fun k hk => by
      obtain ⟨h1, h2⟩ := gatA_small (pathL (o.Pos.getD id.toNat 0)) o.Stash o.Buckets h.sm k
      have h3 := hat k hk
      have h4 := h1.2 ((pathL (o.Pos.getD id.toNat 0)).getD k 0).toNat
      simp only [impl_Oram_access.s0, hpl, decide_eq_true (show (k : Int) < ((4 : Nat) : Int) by omega), cond_true, if_pos (show (0 : Int) ≤ (k : Int) ∧ (k : Int) < ((4 : Nat) : Int) by omega), Int.toNat_natCast]
      rw [if_pos (by omega), if_pos (by omega), w64_id (by omega) (by omega), if_pos (by omega)]
      rfl) (by
      simp only [impl_Oram_access.s0, hpl]
      rw [decide_eq_false (by omega)]; rfl)
  rw [e0]
  simp only [Option.bind_some]
  rw [idx_slices_IndexFunc_impl_Block_impl_Block (gatO o id).1 (fun z0 => impl_Oram_access_c1.f z0 id) (fun b => b.Id == id) (by omega) (fun x _ => rfl)]
  simp only [Option.bind_some]
  have hol := other_len id (gatO o id).1
  have em : (((bif (decide (idxOf (gatO o id).1 z_Block (fun b => b.Id == id) ≥ 0)) then (if 0 ≤ idxOf (gatO o id).1 z_Block (fun b => b.Id == id) ∧ idxOf (gatO o id).1 z_Block (fun b => b.Id == id) < ((gatO o id).1.length : Int) then (if (0 ≤ idxOf (gatO o id).1 z_Block (fun b => b.Id == id) ∧ idxOf (gatO o id).1 z_Block (fun b => b.Id == id) ≤ (w64 (idxOf (gatO o id).1 z_Block (fun b => b.Id == id) + 1)) ∧ (w64 (idxOf (gatO o id).1 z_Block (fun b => b.Id == id) + 1)) ≤ ((gatO o id).1.length : Int)) ∧ (gatO o id).1.length ≤ 1073741824 then (some ((delL (gatO o id).1 (idxOf (gatO o id).1 z_Block (fun b => b.Id == id)).toNat (w64 (idxOf (gatO o id).1 z_Block (fun b => b.Id == id) + 1)).toNat), ((gatO o id).1.getD (idxOf (gatO o id).1 z_Block (fun b => b.Id == id)).toNat z_Block).Id, ((gatO o id).1.getD (idxOf (gatO o id).1 z_Block (fun b => b.Id == id)).toNat z_Block).Leaf, ((gatO o id).1.getD (idxOf (gatO o id).1 z_Block (fun b => b.Id == id)).toNat z_Block).Value)) else none) else none) else (some ((gatO o id).1, id, 0, 0))) : Option ((List S_Block) × Int × Int × Int))) = some (otherB id (gatO o id).1, id, (bif decide (idxOf (gatO o id).1 z_Block (fun b => b.Id == id) ≥ 0) then ((gatO o id).1.getD (idxOf (gatO o id).1 z_Block (fun b => b.Id == id)).toNat z_Block).Leaf else 0), valueL (gatO o id).1 id) := by
    rcases idx_cases (gatO o id).1 id with ⟨e, hni⟩ | ⟨k, hk, e, hb⟩
    · rw [e, other_all hni, valueL_none hni]; rfl
    · rw [e, decide_eq_true (show (k : Int) ≥ 0 by omega)]
      simp only [cond_true]
      rw [w64_id (by omega) (by omega), if_pos (by omega), if_pos (by omega)]
      simp only [Int.toNat_natCast, show ((k : Int) + 1).toNat = k + 1 by omega]
      rw [other_del _ hgn k hk, hb]
      have := valueL_of hgn (getD_mem hk z_Block)
      rw [hb] at this
      rw [this]
  rw [em]
  simp only [Option.bind_some]
  have ev : (((bif w then (some v) else (some (valueL (gatO o id).1 id))) : Option Int)) = some (bif w then v else valueL (gatO o id).1 id) := by cases w <;> rfl
  simp only [ev, Option.bind_some]
  rw [if_pos (by simp only [List.length_cons, List.length_nil]; omega)]
  show ((loopO (fun s : Nat × List (List S_Block) × List S_Block => impl_Oram_access.s1 o (pathL (o.Pos.getD id.toNat 0)) s.1 s.2.1 s.2.2) (0, (gatO o id).2, otherB id (gatO o id).1 ++ [newB id w v leaf (valueL (gatO o id).1 id)])).bind _) = _
  have hsl : (otherB id (gatO o id).1 ++ [newB id w v leaf (valueL (gatO o id).1 id)]).length ≤ 21 := by simp only [List.length_append, List.length_cons, List.length_nil]; omega
  generalize otherB id (gatO o id).1 ++ [newB id w v leaf (valueL (gatO o id).1 id)] = S at hgl hsl ⊢
  generalize (gatO o id).2 = T at hg2 ⊢
  have e2 : loopO (fun s : Nat × List (List S_Block) × List S_Block => impl_Oram_access.s1 o (pathL (o.Pos.getD id.toNat 0)) s.1 s.2.1 s.2.2) (0, T, S) = some (.out ((evP (pathL (o.Pos.getD id.toNat 0)) S T 4).2, (evP (pathL (o.Pos.getD id.toNat 0)) S T 4).1)) :=
    loopO_run (fun k => (k, (evP (pathL (o.Pos.getD id.toNat 0)) S T k).2, (evP (pathL (o.Pos.getD id.toNat 0)) S T k).1)) 4 (fun j hj => by
      obtain ⟨h1, h2⟩ := evP_small (pathL (o.Pos.getD id.toNat 0)) S T hg2 j
      have h3 := evP_leafs (pathL (o.Pos.getD id.toNat 0)) S T hgl j
      have ha := hat (4 - 1 - j) (by omega)
      simp only [impl_Oram_access.s1, hpl, decide_eq_true hj, cond_true, evP, evA]
      generalize (evP (pathL (o.Pos.getD id.toNat 0)) S T j).1 = s at h2 h3
      generalize (evP (pathL (o.Pos.getD id.toNat 0)) S T j).2 = t at h1
      have e3 : loopO (fun u : List S_Block × Int × List (List S_Block) => impl_Oram_access.s2 o (pathL (o.Pos.getD id.toNat 0)) j s u.1 u.2.1 u.2.2) (([] : List S_Block), 0, t) = some (.out ((s.foldl (evS ((pathL (o.Pos.getD id.toNat 0)).getD (4 - 1 - j) 0)) ([], t)).1, (s.foldl (evS ((pathL (o.Pos.getD id.toNat 0)).getD (4 - 1 - j) 0)) ([], t)).2)) := by
        have := loopO_run (step := fun u : List S_Block × Int × List (List S_Block) => impl_Oram_access.s2 o (pathL (o.Pos.getD id.toNat 0)) j s u.1 u.2.1 u.2.2) (fun i => (((s.take i).foldl (evS ((pathL (o.Pos.getD id.toNat 0)).getD (4 - 1 - j) 0)) ([], t)).1, (i : Int), ((s.take i).foldl (evS ((pathL (o.Pos.getD id.toNat 0)).getD (4 - 1 - j) 0)) ([], t)).2)) s.length (r := .out ((s.foldl (evS ((pathL (o.Pos.getD id.toNat 0)).getD (4 - 1 - j) 0)) ([], t)).1, (s.foldl (evS ((pathL (o.Pos.getD id.toNat 0)).getD (4 - 1 - j) 0)) ([], t)).2)) (fun i hi => by
          obtain ⟨h5, h6⟩ := evF_small ((pathL (o.Pos.getD id.toNat 0)).getD (4 - 1 - j) 0) (s.take i) ([], t) h1
          rw [List.length_take, List.length_nil] at h6
          have h7 := h3 _ (getD_mem hi z_Block)
          simp only [impl_Oram_access.s2, hpl, if_pos (show 0 ≤ (pathL (o.Pos.getD id.toNat 0)).getD (4 - 1 - j) 0 ∧ (pathL (o.Pos.getD id.toNat 0)).getD (4 - 1 - j) 0 < (o.Buckets.length : Int) by omega), decide_eq_true (show (i : Int) < (s.length : Int) by omega), cond_true, if_pos (show (0 : Int) ≤ (i : Int) ∧ (i : Int) < (s.length : Int) by omega), Int.toNat_natCast, onPath_eq _ _ h7, Option.bind_some, take_snoc s i hi z_Block, List.foldl_append, List.foldl_cons, List.foldl_nil]
          generalize (s.take i).foldl (evS ((pathL (o.Pos.getD id.toNat 0)).getD (4 - 1 - j) 0)) ([], t) = x at h5 h6
          have h8 := h5.2 ((pathL (o.Pos.getD id.toNat 0)).getD (4 - 1 - j) 0).toNat
          rw [if_pos (by simp only [List.length_cons, List.length_nil]; omega), if_pos (by simp only [List.length_cons, List.length_nil]; omega), w64_id (by omega) (by omega)]
          unfold evS
          cases decide (((x.2.getD ((pathL (o.Pos.getD id.toNat 0)).getD (4 - 1 - j) 0).toNat []).length : Int) < 2)
          · rfl
          · cases (pathL (s.getD i z_Block).Leaf).contains ((pathL (o.Pos.getD id.toNat 0)).getD (4 - 1 - j) 0) <;> rfl) (by
          simp only [impl_Oram_access.s2, List.take_length]
          rw [decide_eq_false (by omega)]; rfl)
        simpa using this
      rw [e3]
      rfl) (by
      simp only [impl_Oram_access.s1, hpl]
      rfl)
  rw [e2]
  rfl

theorem wf_u8 {y : Int} (h : (Lit.int .u8 y).wf = true) : 0 ≤ y ∧ y ≤ 255 := by
  have h2 := h
  simp [Lit.wf, IntKind.min, IntKind.max, IntKind.signed, IntKind.bits] at h2
  omega
theorem src_new (l : List Int) (hl : l.length ≤ 1048576) (hb : isB l) : ∃ s, spec_l00Source.f l = some ⟨l, 0, s⟩ ∧ SrcB l 0 s 0 := by
  refine ⟨_, rfl, hl, hb, by omega, by omega, ?_⟩
  have := tmod_lt (show (0 : Int) ≤ (l.length : Int) by omega) (show (0 : Int) < 1000 by omega)
  omega

theorem src_byte (x0 : S_l00Src) (B : Int) (h : SrcB x0.code x0.at_ x0.seed B) (hB : B ≤ 2305843009213693952) : ∃ v a s, spec_l00Src_byte.f x0 = some (v, a, s) ∧ 0 ≤ v ∧ v ≤ 255 ∧ SrcB x0.code a s (B + 1) := by
  obtain ⟨code, at', seed⟩ := x0
  obtain ⟨hl, hb, h0, h1, h2, h3⟩ := h
  simp only at hl hb h0 h1 h2 h3
  unfold spec_l00Src_byte.f
  simp only [w64_id (x := at' + 1) (by omega) (by omega)]
  by_cases c : at' + 1 ≤ (code.length : Int)
  · rw [decide_eq_true c]
    have e1 : w64 (at' + 1 - 1) = at' := by rw [w64_id (by omega) (by omega)]; omega
    simp only [cond_true, e1]
    rw [if_pos (by omega), if_pos (by omega)]
    obtain ⟨q1, q2⟩ := getD_isB hb at'.toNat
    generalize code.getD at'.toNat 0 = v at q1 q2 ⊢
    have e2 : IntKind.wrap .i64 v = v := w64_id (by omega) (by omega)
    rw [e2, w64_id (x := seed * 31) (by omega) (by omega), w64_id (x := seed * 31 + v) (by omega) (by omega), w64_id (by omega) (by omega)]
    refine ⟨_, _, _, rfl, by omega, by omega, hl, hb, by omega, by omega, ?_, ?_⟩
    · rw [Int.tmod_eq_emod_of_nonneg (by omega)]; omega
    · rw [Int.tmod_eq_emod_of_nonneg (by omega)]; omega
  · rw [decide_eq_false c]
    simp only [cond_false]
    by_cases c2 : at' + 1 > 3000
    · rw [decide_eq_true c2]
      exact ⟨_, _, _, rfl, by omega, by omega, hl, hb, by omega, by omega, h2, h3⟩
    · rw [decide_eq_false c2]
      simp only [cond_false]
      rw [w64_id (x := seed * 1103515245) (by omega) (by omega), w64_id (by omega) (by omega)]
      have e3 : Int.tmod (seed * 1103515245 + 12345) 2147483648 = (seed * 1103515245 + 12345) % 2147483648 := Int.tmod_eq_emod_of_nonneg (by omega)
      rw [e3]
      have e4 : Int.tdiv ((seed * 1103515245 + 12345) % 2147483648) 65536 = (seed * 1103515245 + 12345) % 2147483648 / 65536 := Int.tdiv_eq_ediv_of_nonneg (by omega)
      rw [e4]
      have e5 : IntKind.wrap .i64 ((seed * 1103515245 + 12345) % 2147483648 / 65536) = (seed * 1103515245 + 12345) % 2147483648 / 65536 := w64_id (by omega) (by omega)
      rw [e5]
      have e6 : Int.tmod ((seed * 1103515245 + 12345) % 2147483648 / 65536) 256 = ((seed * 1103515245 + 12345) % 2147483648 / 65536) % 256 := Int.tmod_eq_emod_of_nonneg (by omega)
      rw [e6]
      exact ⟨_, _, _, rfl, by omega, by omega, hl, hb, by omega, by omega, by omega, by omega⟩

theorem src_next (x0 : S_l00Src) (n B : Int) (h : SrcB x0.code x0.at_ x0.seed B) (hB : B ≤ 1152921504606846976) : ∃ v a s, spec_l00Src_next.f x0 n = some (v, a, s) ∧ 0 ≤ v ∧ (v < n ∨ v = 0) ∧ SrcB x0.code a s (B + 3) := by
  unfold spec_l00Src_next.f
  by_cases c : n ≤ 1
  · rw [decide_eq_true c]; exact ⟨_, _, _, rfl, by omega, .inr rfl, h.up (by omega)⟩
  rw [decide_eq_false c]
  simp only [cond_false]
  by_cases c2 : n ≤ 256
  · obtain ⟨v, a, s, e, h0, h1, h2⟩ := src_byte x0 B h (by omega)
    rw [decide_eq_true c2, e]
    simp only [cond_true, Option.bind_some]
    rw [if_neg (by omega)]
    obtain ⟨q1, q2⟩ := tmod_lt h0 (show 0 < n by omega)
    exact ⟨_, _, _, rfl, q1, .inl q2, h2.up (by omega)⟩
  · rw [decide_eq_false c2]
    obtain ⟨v1, a1, s1, e1, h01, h11, h21⟩ := src_byte x0 B h (by omega)
    obtain ⟨v2, a2, s2, e2, h02, h12, h22⟩ := src_byte ⟨x0.code, a1, s1⟩ (B + 1) h21 (by omega)
    obtain ⟨v3, a3, s3, e3, h03, h13, h23⟩ := src_byte ⟨x0.code, a2, s2⟩ (B + 2) (h22.up (by omega)) (by omega)
    simp only [cond_false, e1, e2, e3, Option.bind_some]
    rw [if_neg (by omega)]
    rw [w64_id (x := v1 * 65536) (by omega) (by omega), w64_id (x := v2 * 256) (by omega) (by omega), w64_id (x := v1 * 65536 + v2 * 256) (by omega) (by omega), w64_id (by omega) (by omega)]
    obtain ⟨q1, q2⟩ := tmod_lt (show 0 ≤ v1 * 65536 + v2 * 256 + v3 by omega) (show 0 < n by omega)
    exact ⟨_, _, _, rfl, q1, .inl q2, h23.up (by omega)⟩

theorem src_leaves (x0 : S_l00Src) (n B : Int) (h : SrcB x0.code x0.at_ x0.seed B) (hB : B ≤ 576460752303423488) (hn : 0 ≤ n ∧ n ≤ 1048576) : ∃ t a s, spec_l00Src_drawLeaves.f x0 n = some (t, a, s) ∧ (t.length : Int) = n ∧ (∀ y ∈ t, 0 ≤ y ∧ y ≤ 7) ∧ SrcB x0.code a s (B + 3 * n) := by
  unfold spec_l00Src_drawLeaves.f
  obtain ⟨r, h1, h2⟩ := loopO_wf (step := fun s : List Int × Int × Int × Int => spec_l00Src_drawLeaves.s0 x0 n s.1 s.2.1 s.2.2.1 s.2.2.2)
    (fun s => 0 ≤ s.2.1 ∧ (s.1.length : Int) = s.2.1 ∧ s.2.1 ≤ n ∧ (∀ y ∈ s.1, 0 ≤ y ∧ y ≤ 7) ∧ SrcB x0.code s.2.2.1 s.2.2.2 (B + 3 * s.2.1))
    (fun r => ∃ u a s, r = .out (u, a, s) ∧ (u.length : Int) = n ∧ (∀ y ∈ u, 0 ≤ y ∧ y ≤ 7) ∧ SrcB x0.code a s (B + 3 * n)) (fun s => (n - s.2.1).toNat) (fun s hI => by
      obtain ⟨u, i, a, sd⟩ := s
      obtain ⟨i0, hl, hle, hy, hS⟩ := hI
      simp only at i0 hl hle hy hS
      by_cases c : i < n
      · obtain ⟨v, a2, s2, e, v0, v1, hS2⟩ := src_next ⟨x0.code, a, sd⟩ 8 (B + 3 * i) hS (by omega)
        simp only [spec_l00Src_drawLeaves.s0, decide_eq_true c, cond_true, e, Option.bind_some]
        rw [if_pos (by simp only [List.length_cons, List.length_nil]; omega), w64_id (by omega) (by omega)]
        refine .inl ⟨_, rfl, ⟨by simp only; omega, by simp only [List.length_append, List.length_cons, List.length_nil]; omega, by simp only; omega, fun y hm => ?_, hS2.up (by simp only; omega)⟩, by simp only; omega⟩
        rcases List.mem_append.1 hm with hm | hm
        · exact hy y hm
        · simp only [List.mem_singleton] at hm; subst hm; omega
      · simp only [spec_l00Src_drawLeaves.s0, decide_eq_false c, cond_false]
        exact .inr ⟨_, rfl, u, a, sd, rfl, by omega, hy, hS.up (by omega)⟩) _ (([] : List Int), 0, x0.at_, x0.seed) (Nat.le_refl _) ⟨by simp, by simp, by simp; omega, by simp, by simpa using h⟩
  rw [h1]
  obtain ⟨u, a, s, rfl, h3, h4⟩ := h2
  exact ⟨_, a, s, rfl, h3, h4⟩

theorem src_chance (x0 : S_l00Src) (n B : Int) (h : SrcB x0.code x0.at_ x0.seed B) (hB : B ≤ 1152921504606846976) : ∃ b a s, spec_l00Src_chance.f x0 n = some (b, a, s) ∧ SrcB x0.code a s (B + 3) := by
  obtain ⟨v, a, s, e, _, _, h2⟩ := src_next x0 n B h hB
  unfold spec_l00Src_chance.f
  rw [e]
  exact ⟨_, _, _, rfl, h2⟩

/-! An access keeps a tree right. -/
def OnT (t : List (List S_Block)) : Prop := ∀ (q : Nat), ∀ b ∈ t.getD q [], onB (q : Int) b = true
theorem gatA_on (p : List Int) (s : List S_Block) (t : List (List S_Block)) (h : OnT t) : ∀ k, OnT (gatA p s t k).2
  | 0 => h
  | k + 1 => fun q b hb => by
    have ih := gatA_on p s t h k
    simp only [gatA, getD_set_if] at hb
    split at hb
    · simp at hb
    · exact ih q b hb
theorem evS_on (q : Int) (hq : 0 ≤ q) (x : List S_Block × List (List S_Block)) (b : S_Block) (h : OnT x.2) (hb : 0 ≤ b.Leaf ∧ b.Leaf ≤ 7) : OnT (evS q x b).2 := by
  unfold evS
  cases hc : decide (((x.2.getD q.toNat []).length : Int) < 2) && (pathL b.Leaf).contains q
  · exact h
  · intro j y hy
    simp only [cond_true, getD_set_if] at hy
    split at hy
    · rename_i e
      rcases List.mem_append.1 hy with hy | hy
      · rw [← e.1]; exact h _ y hy
      · rw [List.mem_singleton.1 hy, ← e.1]
        simp only [Bool.and_eq_true] at hc
        unfold onB
        rw [inB_iff.2 hb, Int.toNat_of_nonneg hq, hc.2]; rfl
    · exact h j y hy
theorem evF_on (q : Int) (hq : 0 ≤ q) : ∀ (s : List S_Block) (x : List S_Block × List (List S_Block)), OnT x.2 → leafsB s → OnT (s.foldl (evS q) x).2
  | [], x, h, _ => h
  | b :: s, x, h, hs => evF_on q hq s _ (evS_on q hq x b h (hs b (List.mem_cons_self ..))) (fun y hy => hs y (List.mem_cons_of_mem _ hy))
theorem evP_on (p : List Int) (s : List S_Block) (t : List (List S_Block)) (hp : ∀ k, k < p.length → 0 ≤ p.getD k 0 ∧ p.getD k 0 ≤ 14) (ht : OnT t) (hs : leafsB s) : ∀ k, k ≤ p.length → OnT (evP p s t k).2
  | 0, _ => ht
  | k + 1, h => evF_on _ (hp (p.length - 1 - k) (by omega)).1 _ _ (evP_on p s t hp ht hs k (by omega)) (evP_leafs p s t hs k)
theorem gatA_clear (p : List Int) (s : List S_Block) (t : List (List S_Block)) (ht : smallT t) (hp : ∀ k, k < p.length → 0 ≤ p.getD k 0 ∧ p.getD k 0 ≤ 14) : ∀ k, k ≤ p.length → ∀ j, j < k → (gatA p s t k).2.getD (p.getD j 0).toNat [] = []
  | 0, _, j, hj => by omega
  | k + 1, h, j, hj => by
    have hl := (gatA_small p s t ht k).1.1
    have hk := hp k (by omega)
    simp only [gatA, getD_set_if]
    split
    · rfl
    · rename_i c
      by_cases e : j = k
      · subst e; exact absurd ⟨rfl, by omega⟩ c
      · exact gatA_clear p s t ht hp k (by omega) j (by omega)
theorem mem_flat {t : List (List S_Block)} {b : S_Block} (h : b ∈ t.flatten) : ∃ q, q < t.length ∧ b ∈ t.getD q [] := by
  obtain ⟨l, hl, hb⟩ := List.mem_flatten.1 h
  obtain ⟨q, hq, rfl⟩ := List.mem_iff_getElem.1 hl
  exact ⟨q, hq, by rw [getD_lt hq]; exact hb⟩
theorem okB_pos {pos : List Int} {b : S_Block} (h : okB pos b = true) : (0 ≤ b.Id ∧ b.Id ≤ 11) ∧ pos.getD b.Id.toNat 0 = b.Leaf ∧ (0 ≤ b.Value ∧ b.Value ≤ 999999) := by
  unfold okB at h
  simp only [Bool.and_eq_true, inB_iff, beq_iff_eq] at h
  exact h
/-- The block is not left in the tree. -/
theorem gat_out {o : S_Oram} (h : OramI o) {id : Int} (hi : 0 ≤ id ∧ id ≤ 11) : ∀ b ∈ (gatO o id).2.flatten, b.Id ≠ id := by
  intro b hb e
  have hok := okB_pos (h.ok b ((gatO_perm h hi).subset (List.mem_append_right _ hb)))
  obtain ⟨q, hq, hbq⟩ := mem_flat hb
  have hon := gatA_on (pathL (o.Pos.getD id.toNat 0)) o.Stash o.Buckets h.on 4 q b hbq
  unfold onB at hon
  rw [Bool.and_eq_true, ← hok.2.1, e, List.contains_iff_mem] at hon
  obtain ⟨j, hj, hj2⟩ := List.mem_iff_getElem.1 hon.2
  have hc := gatA_clear (pathL (o.Pos.getD id.toNat 0)) o.Stash o.Buckets h.sm (fun k hk => pathL_at (h.leaf hi) hk) 4 (Nat.le_refl _) j hj
  rw [getD_lt hj, hj2] at hc
  have hbq' : b ∈ (gatA (pathL (o.Pos.getD id.toNat 0)) o.Stash o.Buckets 4).2.getD q [] := hbq
  rw [show ((q : Int)).toNat = q from rfl] at hc
  rw [hc] at hbq'
  simp at hbq'
def restB (o : S_Oram) (id : Int) : List S_Block := otherB id (gatO o id).1 ++ (gatO o id).2.flatten
theorem rest_sub (o : S_Oram) (id : Int) : (restB o id).Sublist ((gatO o id).1 ++ (gatO o id).2.flatten) := List.Sublist.append List.filter_sublist (List.Sublist.refl _)
theorem rest_ne {o : S_Oram} (h : OramI o) {id : Int} (hi : 0 ≤ id ∧ id ≤ 11) : ∀ b ∈ restB o id, b.Id ≠ id := by
  intro b hb
  rcases List.mem_append.1 hb with hb | hb
  · have := (List.mem_filter.1 hb).2
    simpa using this
  · exact gat_out h hi b hb
def allB (o : S_Oram) : List S_Block := o.Stash ++ o.Buckets.flatten
theorem acc_perm {o : S_Oram} (h : OramI o) {id leaf : Int} (w : Bool) (v : Int) (hi : 0 ≤ id ∧ id ≤ 11) : (allB (accR o id w v leaf).1).Perm (newB id w v leaf (valueL (gatO o id).1 id) :: restB o id) := by
  have h1 := evP_perm (pathL (o.Pos.getD id.toNat 0)) (otherB id (gatO o id).1 ++ [newB id w v leaf (valueL (gatO o id).1 id)]) (gatO o id).2 (gatO_small h).1 (fun k hk => pathL_at (h.leaf hi) hk) 4 (Nat.le_refl _)
  refine List.Perm.trans h1 ?_
  unfold restB
  generalize otherB id (gatO o id).1 = X
  generalize (gatO o id).2.flatten = Y
  generalize newB id w v leaf (valueL (gatO o id).1 id) = z
  simp
theorem all_nodup {o : S_Oram} (h : OramI o) {id : Int} (hi : 0 ≤ id ∧ id ≤ 11) : (((gatO o id).1 ++ (gatO o id).2.flatten).map S_Block.Id).Nodup := ((gatO_perm h hi).map S_Block.Id).nodup_iff.2 h.nd
theorem new_nodup {o : S_Oram} (h : OramI o) {id leaf : Int} (w : Bool) (v old : Int) (hi : 0 ≤ id ∧ id ≤ 11) : ((newB id w v leaf old :: restB o id).map S_Block.Id).Nodup := by
  rw [List.map_cons, List.nodup_cons]
  refine ⟨fun hm => ?_, (all_nodup h hi).sublist ((rest_sub o id).map _)⟩
  obtain ⟨b, hb, e⟩ := List.mem_map.1 hm
  exact rest_ne h hi b hb e
theorem acc_val {o : S_Oram} (h : OramI o) {id : Int} (hi : 0 ≤ id ∧ id ≤ 11) : valueL (gatO o id).1 id = valueL (allB o) id := by
  unfold allB
  rw [← valueL_perm (gatO_perm h hi) (all_nodup h hi) id]
  by_cases hm : id ∈ (gatO o id).1.map S_Block.Id
  · obtain ⟨b, hb, rfl⟩ := List.mem_map.1 hm
    rw [valueL_of (gatO_nodup h hi) hb, valueL_of (all_nodup h hi) (List.mem_append_left _ hb)]
  · rw [valueL_none hm, valueL_none]
    intro hm2
    rw [List.map_append] at hm2
    rcases List.mem_append.1 hm2 with hm2 | hm2
    · exact hm hm2
    · obtain ⟨b, hb, e⟩ := List.mem_map.1 hm2
      exact gat_out h hi b hb e
theorem val_rng {o : S_Oram} (h : OramI o) (id : Int) : 0 ≤ valueL (allB o) id ∧ valueL (allB o) id ≤ 999999 := by
  by_cases hm : id ∈ (allB o).map S_Block.Id
  · obtain ⟨b, hb, rfl⟩ := List.mem_map.1 hm
    rw [valueL_of (l := allB o) h.nd hb]
    exact (okB_pos (h.ok b hb)).2.2
  · rw [valueL_none hm]; omega
theorem acc_inv {o : S_Oram} (h : OramI o) {id leaf : Int} {w : Bool} {v : Int} (hi : 0 ≤ id ∧ id ≤ 11) (hlf : 0 ≤ leaf ∧ leaf ≤ 7) (hv : 0 ≤ v ∧ v ≤ 999999) : OramI (accR o id w v leaf).1 := by
  have hP := h.lv.1
  have hp := acc_perm h (leaf := leaf) w v hi
  have hr := val_rng h id
  have hnd := new_nodup h (leaf := leaf) w v (valueL (gatO o id).1 id) hi
  refine ⟨⟨by simp only [accR, List.length_set]; exact hP, fun y hy => ?_⟩, (evP_small _ _ _ (gatO_small h).1 4).1, ?_, fun b hb => ?_, (hp.map S_Block.Id).nodup_iff.2 hnd⟩
  · rcases List.mem_or_eq_of_mem_set hy with hy | rfl
    · exact h.lv.2 y hy
    · exact hlf
  · exact evP_on (pathL (o.Pos.getD id.toNat 0)) (otherB id (gatO o id).1 ++ [newB id w v leaf (valueL (gatO o id).1 id)]) (gatO o id).2 (fun k hk => pathL_at (h.leaf hi) hk) (gatA_on _ _ _ h.on 4) (other_leafs h hi hlf) 4 (Nat.le_refl _)
  · show okB (o.Pos.set id.toNat leaf) b = true
    rcases List.mem_cons.1 (hp.subset hb) with rfl | hb
    · unfold okB newB
      simp only [inB_iff.2 hi, getD_set_self o.Pos 0 leaf (show id.toNat < o.Pos.length by omega), BEq.rfl, Bool.true_and]
      rw [acc_val h hi]
      cases w
      · exact inB_iff.2 hr
      · exact inB_iff.2 hv
    · have hne := rest_ne h hi b hb
      have hok := h.ok b ((gatO_perm h hi).subset ((rest_sub o id).subset hb))
      have hb' := okB_pos hok
      unfold okB at hok ⊢
      rw [getD_set_ne _ _ _ (show id.toNat ≠ b.Id.toNat by omega)]
      exact hok
theorem acc_new {o : S_Oram} (h : OramI o) {id leaf : Int} (w : Bool) (v : Int) (hi : 0 ≤ id ∧ id ≤ 11) : valueL (allB (accR o id w v leaf).1) id = bif w then v else valueL (allB o) id := by
  have hp := acc_perm h (leaf := leaf) w v hi
  have hnd := new_nodup h (leaf := leaf) w v (valueL (gatO o id).1 id) hi
  rw [valueL_perm hp ((hp.map S_Block.Id).nodup_iff.2 hnd) id, ← acc_val h hi]
  exact valueL_of hnd (List.mem_cons_self ..)
theorem acc_old {o : S_Oram} (h : OramI o) {id leaf : Int} (w : Bool) (v : Int) (hi : 0 ≤ id ∧ id ≤ 11) (k : Int) (hk : k ≠ id) : valueL (allB (accR o id w v leaf).1) k = valueL (allB o) k := by
  have hp := acc_perm h (leaf := leaf) w v hi
  have hnd := new_nodup h (leaf := leaf) w v (valueL (gatO o id).1 id) hi
  rw [valueL_perm hp ((hp.map S_Block.Id).nodup_iff.2 hnd) k]
  show _ = valueL (o.Stash ++ o.Buckets.flatten) k
  rw [← valueL_perm (gatO_perm h hi) (all_nodup h hi) k]
  by_cases hm : k ∈ ((gatO o id).1 ++ (gatO o id).2.flatten).map S_Block.Id
  · obtain ⟨b, hb, rfl⟩ := List.mem_map.1 hm
    rw [valueL_of (all_nodup h hi) hb]
    refine valueL_of hnd (List.mem_cons_of_mem _ ?_)
    rcases List.mem_append.1 hb with hb | hb
    · exact List.mem_append_left _ (List.mem_filter.2 ⟨hb, by simpa using hk⟩)
    · exact List.mem_append_right _ hb
  · rw [valueL_none hm, valueL_none]
    intro hm2
    rw [List.map_cons, List.mem_cons] at hm2
    rcases hm2 with e | hm2
    · exact hk e
    · exact hm (((rest_sub o id).map _).subset hm2)
theorem empty_inv (d : List Int) (h1 : d.length = 12) (h2 : ∀ y ∈ d, 0 ≤ y ∧ y ≤ 7) : OramI ⟨d, [], List.replicate 15 []⟩ := by
  have hg : ∀ q, (List.replicate 15 ([] : List S_Block)).getD q [] = [] := fun q => by
    rw [List.getD_eq_getElem?_getD, List.getElem?_replicate]; split <;> rfl
  exact ⟨⟨h1, h2⟩, ⟨by simp, fun q => by simp only [hg]; simp⟩, fun q b hb => by simp only [hg] at hb; simp at hb, fun b hb => by simp at hb, by simp⟩
theorem OramI.bl {o : S_Oram} (h : OramI o) : ∀ y ∈ o.Buckets, y.length ≤ 2 := fun y hy => by
  obtain ⟨j, hj, rfl⟩ := List.mem_iff_getElem.1 hy
  have := h.sm.2 j
  rwa [getD_lt hj] at this
theorem src_oram (x0 : S_l00Src) (B : Int) (h : SrcB x0.code x0.at_ x0.seed B) (hB : B ≤ 1048576) : ∃ o a s, spec_l00Src_oram.f x0 = some (o, a, s) ∧ OramI o := by
  unfold spec_l00Src_oram.f
  obtain ⟨d, a1, s1, e1, d1, d2, h1⟩ := src_leaves x0 12 B h (by omega) (by omega)
  have e2 : spec_l08New.f d = some ⟨d, [], List.replicate 15 []⟩ := by
    unfold spec_l08New.f
    rw [if_pos (by simp only [List.length_nil]; omega), if_pos (by omega)]; rfl
  obtain ⟨z, e3, z0, z1⟩ : ∃ z, spec_l00Src_size.f ⟨x0.code, a1, s1⟩ 30 = some (z, a1, s1) ∧ 0 ≤ z ∧ z ≤ 30 := by
    have hl : x0.code.length ≤ 1048576 := h.1
    have et : Int.tdiv (x0.code.length : Int) 12 = ((x0.code.length / 12 : Nat) : Int) := by
      rw [Int.tdiv_eq_ediv_of_nonneg (by omega)]; omega
    have ew : IntKind.wrap .i64 ((x0.code.length / 12 : Nat) : Int) = ((x0.code.length / 12 : Nat) : Int) := w64_id (by omega) (by omega)
    unfold spec_l00Src_size.f
    simp only [et, ew]
    rw [w64_id (by omega) (by omega)]
    refine ⟨_, rfl, ?_, ?_⟩ <;> split <;> omega
  simp only [e1, e2, e3, Option.bind_some]
  rw [w64_id (by omega) (by omega)]
  obtain ⟨n, a2, s2, e4, n0, n1, h2⟩ := src_next ⟨x0.code, a1, s1⟩ (z + 8) _ h1 (by omega)
  simp only [e4, Option.bind_some]
  obtain ⟨r, l1, l2⟩ := loopO_wf (step := fun s : Int × Int × Int × List Int × List S_Block × List (List S_Block) => spec_l00Src_oram.s0 x0 s.1 s.2.1 s.2.2.1 s.2.2.2.1 s.2.2.2.2.1 s.2.2.2.2.2)
    (fun s => 0 ≤ s.1 ∧ s.1 ≤ 38 ∧ SrcB x0.code s.2.1 s.2.2.1 (B + 40 + (38 - s.1) * 12) ∧ OramI ⟨s.2.2.2.1, s.2.2.2.2.1, s.2.2.2.2.2⟩)
    (fun r => ∃ a s p t b, r = .out (a, s, p, t, b) ∧ OramI ⟨p, t, b⟩) (fun s => s.1.toNat) (fun s hI => by
      obtain ⟨i, a, sd, p, t, b⟩ := s
      obtain ⟨i0, i1, hS, hO⟩ := hI
      simp only at i0 i1 hS hO
      by_cases c : i > 0
      · obtain ⟨k, a3, s3, e5, k0, k1, h3⟩ := src_next ⟨x0.code, a, sd⟩ 12 _ hS (by omega)
        obtain ⟨w, a4, s4, e6, h4⟩ := src_chance ⟨x0.code, a3, s3⟩ 2 _ h3 (by omega)
        obtain ⟨v, a5, s5, e7, v0, v1, h5⟩ := src_next ⟨x0.code, a4, s4⟩ 100 _ h4 (by omega)
        obtain ⟨lf, a6, s6, e8, f0, f1, h6⟩ := src_next ⟨x0.code, a5, s5⟩ 8 _ h5 (by omega)
        simp only [spec_l00Src_oram.s0, decide_eq_true c, cond_true, e5, e6, e7, e8, Option.bind_some, l08Access_eq ⟨p, t, b⟩ k w v lf hO (by omega) (by omega)]
        rw [w64_id (by omega) (by omega)]
        exact .inl ⟨_, rfl, ⟨by simp only; omega, by simp only; omega, h6.up (by simp only; omega), acc_inv hO (by omega) (by omega) (by omega)⟩, by simp only; omega⟩
      · simp only [spec_l00Src_oram.s0, decide_eq_false c, cond_false]
        exact .inr ⟨_, rfl, a, sd, p, t, b, rfl, hO⟩) _ (n, a2, s2, d, [], List.replicate 15 []) (Nat.le_refl _) ⟨by simp only; omega, by simp only; omega, h2.up (by simp only; omega), empty_inv d (by omega) d2⟩
  rw [l1]
  obtain ⟨a, s, p, t, b, rfl, hO⟩ := l2
  have hb := hO.sm.1
  have hs := hO.le
  have hp := hO.lv.1
  simp only at hb hs hp
  simp only [Option.bind_some, l08Own_eq ⟨p, t, b⟩ (by simp only; omega) (by simp only; omega) (by simp only; omega) (fun y hy => by have := hO.bl y hy; omega)]
  exact ⟨_, a, s, rfl, hO⟩

theorem oramOf_some (l : List Int) (hl : l.length ≤ 1048576) (hb : isB l) : ∃ o, spec_OramOf.f l = some o ∧ OramI o := by
  obtain ⟨s, e, h⟩ := src_new l hl hb
  obtain ⟨d, a, s2, e2, h2⟩ := src_oram ⟨l, 0, s⟩ 0 h (by omega)
  exact ⟨d, by unfold spec_OramOf.f; simp only [e, e2, Option.bind_some], h2⟩

theorem at_some (l : List Int) (i n : Int) (hl : l.length ≤ 1048576) (hb : isB l) (hi : 0 ≤ i ∧ i ≤ 1048576) (hn : n ≤ 1048576) : ∃ v, laws_at.f l i n = some v ∧ 0 ≤ v ∧ (v < n ∨ v = 0) := by
  unfold laws_at.f
  by_cases c : n ≤ 1
  · rw [decide_eq_true c]; exact ⟨_, rfl, by omega, .inr rfl⟩
  rw [decide_eq_false c]
  simp only [cond_false]
  cases h0 : ((l.length : Int) == 0)
  · have hne : (l.length : Int) ≠ 0 := by simpa using h0
    obtain ⟨q1, q2⟩ := tmod_lt hi.1 (show (0 : Int) < (l.length : Int) by omega)
    have w1 : w64 (i + 1) = i + 1 := w64_id (by omega) (by omega)
    obtain ⟨q3, q4⟩ := tmod_lt (show 0 ≤ i + 1 by omega) (show (0 : Int) < (l.length : Int) by omega)
    have q5 : 0 ≤ Int.tdiv i (l.length : Int) ∧ Int.tdiv i (l.length : Int) ≤ i := by
      rw [Int.tdiv_eq_ediv_of_nonneg hi.1]
      exact ⟨Int.ediv_nonneg hi.1 (by omega), Int.ediv_le_self _ hi.1⟩
    simp only [cond_false, if_neg hne, w1]
    rw [if_pos ⟨q1, q2⟩, if_pos ⟨q3, q4⟩, if_neg (by omega)]
    obtain ⟨b1, b2⟩ := getD_isB hb (Int.tmod i (l.length : Int)).toNat
    obtain ⟨b3, b4⟩ := getD_isB hb (Int.tmod (i + 1) (l.length : Int)).toNat
    generalize l.getD (Int.tmod i (l.length : Int)).toNat 0 = x at b1 b2 ⊢
    generalize l.getD (Int.tmod (i + 1) (l.length : Int)).toNat 0 = y at b3 b4 ⊢
    generalize Int.tdiv i (l.length : Int) = z at q5 ⊢
    have e1 : IntKind.wrap .i64 x = x := w64_id (by omega) (by omega)
    have e2 : IntKind.wrap .i64 y = y := w64_id (by omega) (by omega)
    have e3 : IntKind.wrap .i64 z = z := w64_id (by omega) (by omega)
    rw [e1, e2, e3, w64_id (x := x * 31) (by omega) (by omega), w64_id (x := x * 31 + y) (by omega) (by omega), w64_id (by omega) (by omega)]
    obtain ⟨r1, r2⟩ := tmod_lt (show 0 ≤ x * 31 + y + z by omega) (show 0 < n by omega)
    exact ⟨_, rfl, r1, .inl r2⟩
  · simp only [cond_true]
    rw [if_neg (by omega), w64_id (by omega) (by omega)]
    obtain ⟨r1, r2⟩ := tmod_lt (show 0 ≤ i * 7 by omega) (show 0 < n by omega)
    exact ⟨_, rfl, r1, .inl r2⟩

theorem sameInts_refl (l : List Int) (h : l.length ≤ 1048576) : laws_sameInts.f l l = some true := by
  unfold laws_sameInts.f
  have := loopO_run (step := fun s => laws_sameInts.s0 l l s) (fun k => (k : Int)) l.length (r := .out ()) (fun k hk => by
    simp only [laws_sameInts.s0, decide_eq_true (show (k : Int) < (l.length : Int) by omega), cond_true, if_pos (show (0 : Int) ≤ (k : Int) ∧ (k : Int) < (l.length : Int) by omega), Int.toNat_natCast, bne_self_eq_false, cond_false]
    rw [w64_id (by omega) (by omega)]
    rfl) (by
    simp only [laws_sameInts.s0]
    rw [decide_eq_false (by omega)]; rfl)
  have this2 : loopO (fun s => laws_sameInts.s0 l l s) 0 = _ := this
  simp only [bne_self_eq_false, cond_false, this2, Option.bind_some]

theorem sameBlocks_refl (l : List S_Block) (h : l.length ≤ 1048576) : laws_sameBlocks.f l l = some true := by
  unfold laws_sameBlocks.f
  have := loopO_run (step := fun s => laws_sameBlocks.s0 l l s) (fun k => (k : Int)) l.length (r := .out ()) (fun k hk => by
    simp only [laws_sameBlocks.s0, decide_eq_true (show (k : Int) < (l.length : Int) by omega), cond_true, if_pos (show (0 : Int) ≤ (k : Int) ∧ (k : Int) < (l.length : Int) by omega), Int.toNat_natCast, BEq.rfl, Bool.and_self, Bool.not_true, cond_false]
    rw [w64_id (by omega) (by omega)]
    rfl) (by
    simp only [laws_sameBlocks.s0]
    rw [decide_eq_false (by omega)]; rfl)
  have this2 : loopO (fun s => laws_sameBlocks.s0 l l s) 0 = _ := this
  simp only [bne_self_eq_false, cond_false, this2, Option.bind_some]

theorem sameOram_refl (o : S_Oram) (h1 : o.Pos.length ≤ 1048576) (h2 : o.Stash.length ≤ 1048576) (h3 : o.Buckets.length ≤ 1048576) (h4 : ∀ q, (o.Buckets.getD q []).length ≤ 1048576) : laws_sameOram.f o o = some true := by
  unfold laws_sameOram.f
  have := loopO_run (step := fun s => laws_sameOram.s0 o o s) (fun k => (k : Int)) o.Buckets.length (r := .out ()) (fun k hk => by
    simp only [laws_sameOram.s0, decide_eq_true (show (k : Int) < (o.Buckets.length : Int) by omega), cond_true, if_pos (show (0 : Int) ≤ (k : Int) ∧ (k : Int) < (o.Buckets.length : Int) by omega), Int.toNat_natCast, sameBlocks_refl _ (h4 k), Option.bind_some, Bool.not_true, cond_false]
    rw [w64_id (by omega) (by omega)]
    rfl) (by
    simp only [laws_sameOram.s0]
    rw [decide_eq_false (by omega)]; rfl)
  have this2 : loopO (fun s => laws_sameOram.s0 o o s) 0 = _ := this
  simp only [sameInts_refl _ h1, sameBlocks_refl _ h2, bne_self_eq_false, Option.bind_some, Bool.not_true, cond_false, this2]

theorem valueAt_loop (l : List S_Block) (id : Int) (h : l.length ≤ 1073741824) : ((loopO (fun s => impl_Oram_valueAt.s0 id l s) 0).bind fun o => match o with | .out _ => (some 0) | .ret r => (some r)) = some (valueL l id) := by
  obtain ⟨r, h1, h2⟩ := loopO_wf (step := fun s => impl_Oram_valueAt.s0 id l s) (fun s => ∃ i : Nat, s = (i : Int) ∧ i ≤ l.length ∧ valueL (l.drop i) id = valueL l id) (fun r => match r with | .out _ => valueL l id = 0 | .ret v => valueL l id = v) (fun s => (l.length - s).toNat) (fun s hI => by
    obtain ⟨i, rfl, hi, hv⟩ := hI
    by_cases hlt : i < l.length
    · have hd : l.drop i = l.getD i z_Block :: l.drop (i + 1) := by rw [getD_lt hlt]; exact List.drop_eq_getElem_cons hlt
      rw [hd] at hv
      simp only [impl_Oram_valueAt.s0, decide_eq_true (show (i : Int) < (l.length : Int) by omega), cond_true, if_pos (show (0 : Int) ≤ (i : Int) ∧ (i : Int) < (l.length : Int) by omega), Int.toNat_natCast]
      cases hc : ((l.getD i z_Block).Id == id)
      · rw [w64_id (by omega) (by omega)]
        refine .inl ⟨_, rfl, ⟨i + 1, by omega, by omega, ?_⟩, by omega⟩
        rw [← hv]; unfold valueL; rw [List.find?_cons, hc]
      · refine .inr ⟨_, rfl, ?_⟩
        rw [← hv]; unfold valueL; rw [List.find?_cons, hc]
    · have e : i = l.length := by omega
      subst e
      rw [List.drop_length] at hv
      simp only [impl_Oram_valueAt.s0]
      rw [decide_eq_false (by omega)]
      exact .inr ⟨_, rfl, by rw [← hv]; rfl⟩) _ 0 (Nat.le_refl _) ⟨0, rfl, Nat.zero_le _, rfl⟩
  rw [h1]
  cases r with
  | out u => simp only at h2; simp only [Option.bind_some, h2]
  | ret v => simp only at h2; simp only [Option.bind_some, h2]
theorem valueAt_all (o : S_Oram) (l : List S_Block) (id : Int) (ha : impl_Oram_all.f o = some l) (h : l.length ≤ 1073741824) : impl_Oram_valueAt.f o id = some (valueL l id) := by
  unfold impl_Oram_valueAt.f
  rw [ha]
  exact valueAt_loop l id h

theorem idx_slices_IndexFunc_impl_Block_impl_Block_L (l : List (List S_Block)) (q : (List S_Block) → Option Bool) (p : (List S_Block) → Bool) (h : l.length ≤ 1073741824) (hq : ∀ x, x ∈ l → q x = some (p x)) : slices_IndexFunc_impl_Block_impl_Block_L.f l q = some (idxOf l [] p) := by
  unfold slices_IndexFunc_impl_Block_impl_Block_L.f idxOf
  have := loopO_find (step := fun s => slices_IndexFunc_impl_Block_impl_Block_L.s0 l q s) (fun k => (k : Int)) l.length (fun k => p (l.getD k [])) (fun k => (k : Int)) (t := ()) (fun k hk => by
    simp only [slices_IndexFunc_impl_Block_impl_Block_L.s0, decide_eq_true (show (k : Int) < (l.length : Int) by omega), cond_true, if_pos (show (0 : Int) ≤ (k : Int) ∧ (k : Int) < (l.length : Int) by omega), Int.toNat_natCast, hq _ (getD_mem hk _), Option.bind_some]
    rw [w64_id (by omega) (by omega)]
    cases p (l.getD k []) <;> rfl) (by
    simp only [slices_IndexFunc_impl_Block_impl_Block_L.s0]
    rw [decide_eq_false (by omega)]; rfl)
  rw [show ((0 : Int)) = ((0 : Nat) : Int) from rfl, this]
  cases (List.range l.length).find? (fun k => p (l.getD k [])) <;> rfl

theorem same_slices_Equal_int_int (a b : List Int) (h : a.length ≤ 1073741824) : slices_Equal_int_int.f a b = some (sameL 0 (fun x y => (x == y)) a b) := by
  unfold slices_Equal_int_int.f sameL
  by_cases hl : (a.length : Int) = (b.length : Int)
  · rw [show ((a.length : Int) != (b.length : Int)) = false from by rw [hl]; simp, show ((a.length : Int) == (b.length : Int)) = true from by rw [hl]; simp]
    have := loopO_scan (step := fun s => slices_Equal_int_int.s0 a b s) (fun k => (k : Int)) a.length (fun k => (fun x y => (x == y)) (a.getD k 0) (b.getD k 0)) (b := false) (t := ()) (fun k hk => by
      simp only [slices_Equal_int_int.s0, decide_eq_true (show (k : Int) < (a.length : Int) by omega), cond_true, if_pos (show (0 : Int) ≤ (k : Int) ∧ (k : Int) < (a.length : Int) by omega), if_pos (show (0 : Int) ≤ (k : Int) ∧ (k : Int) < (b.length : Int) by omega), Int.toNat_natCast]
      rw [w64_id (by omega) (by omega)]
      try simp only [bne]
      cases ((a.getD k 0) == (b.getD k 0)) <;> rfl) (by
      simp only [slices_Equal_int_int.s0]
      rw [decide_eq_false (by omega)]; rfl)
    rw [show ((0 : Int)) = ((0 : Nat) : Int) from rfl, this]
    cases (List.range a.length).all (fun k => (fun x y => (x == y)) (a.getD k 0) (b.getD k 0)) <;> rfl
  · rw [show ((a.length : Int) != (b.length : Int)) = true from by simpa using hl, show ((a.length : Int) == (b.length : Int)) = false from by simpa using hl]
    rfl

theorem same_slices_Equal_impl_Block_impl_Block (a b : List S_Block) (h : a.length ≤ 1073741824) : slices_Equal_impl_Block_impl_Block.f a b = some (sameL z_Block (fun x y => ((x.Id == y.Id) && ((x.Leaf == y.Leaf) && ((x.Value == y.Value) && true)))) a b) := by
  unfold slices_Equal_impl_Block_impl_Block.f sameL
  by_cases hl : (a.length : Int) = (b.length : Int)
  · rw [show ((a.length : Int) != (b.length : Int)) = false from by rw [hl]; simp, show ((a.length : Int) == (b.length : Int)) = true from by rw [hl]; simp]
    have := loopO_scan (step := fun s => slices_Equal_impl_Block_impl_Block.s0 a b s) (fun k => (k : Int)) a.length (fun k => (fun x y => ((x.Id == y.Id) && ((x.Leaf == y.Leaf) && ((x.Value == y.Value) && true)))) (a.getD k z_Block) (b.getD k z_Block)) (b := false) (t := ()) (fun k hk => by
      simp only [slices_Equal_impl_Block_impl_Block.s0, decide_eq_true (show (k : Int) < (a.length : Int) by omega), cond_true, if_pos (show (0 : Int) ≤ (k : Int) ∧ (k : Int) < (a.length : Int) by omega), if_pos (show (0 : Int) ≤ (k : Int) ∧ (k : Int) < (b.length : Int) by omega), Int.toNat_natCast]
      rw [w64_id (by omega) (by omega)]
      try simp only [bne]
      cases (((a.getD k z_Block).Id == (b.getD k z_Block).Id) && (((a.getD k z_Block).Leaf == (b.getD k z_Block).Leaf) && (((a.getD k z_Block).Value == (b.getD k z_Block).Value) && true))) <;> rfl) (by
      simp only [slices_Equal_impl_Block_impl_Block.s0]
      rw [decide_eq_false (by omega)]; rfl)
    rw [show ((0 : Int)) = ((0 : Nat) : Int) from rfl, this]
    cases (List.range a.length).all (fun k => (fun x y => ((x.Id == y.Id) && ((x.Leaf == y.Leaf) && ((x.Value == y.Value) && true)))) (a.getD k z_Block) (b.getD k z_Block)) <;> rfl
  · rw [show ((a.length : Int) != (b.length : Int)) = true from by simpa using hl, show ((a.length : Int) == (b.length : Int)) = false from by simpa using hl]
    rfl

theorem samef_slices_EqualFunc_impl_Block_impl_Block_impl_Block_impl_Block_L (a b : List (List S_Block)) (q : (List S_Block) → (List S_Block) → Option Bool) (p : (List S_Block) → (List S_Block) → Bool) (h : a.length ≤ 1073741824) (hq : ∀ x y, x ∈ a → y ∈ b → q x y = some (p x y)) : slices_EqualFunc_impl_Block_impl_Block_impl_Block_impl_Block_L.f a b q = some (sameL [] p a b) := by
  unfold slices_EqualFunc_impl_Block_impl_Block_impl_Block_impl_Block_L.f sameL
  by_cases hl : (a.length : Int) = (b.length : Int)
  · rw [show ((a.length : Int) != (b.length : Int)) = false from by rw [hl]; simp, show ((a.length : Int) == (b.length : Int)) = true from by rw [hl]; simp]
    have := loopO_scan (step := fun s => slices_EqualFunc_impl_Block_impl_Block_impl_Block_impl_Block_L.s0 a b q s) (fun k => (k : Int)) a.length (fun k => p (a.getD k []) (b.getD k [])) (b := false) (t := ()) (fun k hk => by
      simp only [slices_EqualFunc_impl_Block_impl_Block_impl_Block_impl_Block_L.s0, decide_eq_true (show (k : Int) < (a.length : Int) by omega), cond_true, if_pos (show (0 : Int) ≤ (k : Int) ∧ (k : Int) < (a.length : Int) by omega), if_pos (show (0 : Int) ≤ (k : Int) ∧ (k : Int) < (b.length : Int) by omega), Int.toNat_natCast, hq _ _ (getD_mem hk _) (getD_mem (l := b) (show k < b.length by omega) _), Option.bind_some]
      rw [w64_id (by omega) (by omega)]
      cases p (a.getD k []) (b.getD k []) <;> rfl) (by
      simp only [slices_EqualFunc_impl_Block_impl_Block_impl_Block_impl_Block_L.s0]
      rw [decide_eq_false (by omega)]; rfl)
    rw [show ((0 : Int)) = ((0 : Nat) : Int) from rfl, this]
    cases (List.range a.length).all (fun k => p (a.getD k []) (b.getD k [])) <;> rfl
  · rw [show ((a.length : Int) != (b.length : Int)) = true from by simpa using hl, show ((a.length : Int) == (b.length : Int)) = false from by simpa using hl]
    rfl

end Go.Proofs.Ytjlhmcieholdiaa
