/- What the models of these functions come to. -/
import Derived.Test.YtlbbkehdfgjneaaP0
import Derived.Test.YtlbbkehdfgjneaaGFDevicen2
namespace Go.Proofs.Ytlbbkehdfgjneaa
open Go Go.Z Go.Proofs Go.MuLone Go.ChangeShapes Go.WideShapes Go.ChangeAt Go.RowKit
set_option linter.unusedVariables false
set_option linter.unusedSimpArgs false
def ioOK (x : S_Io) : Bool := inB x.At 0 39 && decide ((x.Data.size : Int) ≤ 700)
def devOK (d : S_Device) : Bool := ((d.Sure.length : Int) == 40) && decide ((d.Unsure.length : Int) ≤ 60) && d.Sure.all (fun t => decide ((t.size : Int) ≤ 700)) && d.Unsure.all ioOK
theorem not_gt (x y : Int) : decide (x > y) = !decide (x ≤ y) := by
  by_cases h : x ≤ y
  · rw [decide_eq_true h, decide_eq_false (by omega)]; rfl
  · rw [decide_eq_false h, decide_eq_true (by omega)]; rfl
theorem devOK_lens {d : S_Device} (h : devOK d = true) : d.Sure.length = 40 ∧ d.Unsure.length ≤ 60 := by
  unfold devOK at h
  simp only [Bool.and_eq_true, beq_iff_eq, decide_eq_true_eq] at h
  omega
def ioEq (x y : S_Io) : Bool := (x.At == y.At) && ((x.Data.toList == y.Data.toList) && true)
def strEq (x y : ByteArray) : Bool := x.toList == y.toList
def sameDev (a b : S_Device) : Bool := sameL ByteArray.empty strEq a.Sure b.Sure && sameL z_Io ioEq a.Unsure b.Unsure
/-- A drawn device: right, and with few writes that are not sure. -/
def DevD (d : S_Device) (n : Nat) : Prop := d.Sure.length = 40 ∧ d.Unsure.length ≤ n ∧ (∀ t ∈ d.Sure, t.size ≤ 700) ∧ ∀ x ∈ d.Unsure, (0 ≤ x.At ∧ x.At ≤ 39) ∧ x.Data.size ≤ 700
theorem DevD.ok {d : S_Device} {n : Nat} (h : DevD d n) (hn : n ≤ 60) : devOK d = true := by
  obtain ⟨h1, h2, h3, h4⟩ := h
  unfold devOK
  simp only [Bool.and_eq_true, beq_iff_eq, decide_eq_true_eq, List.all_eq_true]
  refine ⟨⟨⟨by omega, by omega⟩, fun t ht => by have := h3 t ht; omega⟩, fun x hx => ?_⟩
  obtain ⟨h5, h6⟩ := h4 x hx
  unfold ioOK
  simp only [Bool.and_eq_true, decide_eq_true_eq]
  exact ⟨inB_iff.2 h5, by omega⟩
theorem strEq_iff {x y : ByteArray} : strEq x y = decide (x = y) := ba_toList_eq
noncomputable instance : DecidableEq S_Io := fun _ _ => Classical.propDecidable _
noncomputable instance : DecidableEq S_Device := fun _ _ => Classical.propDecidable _
theorem ioEq_iff {x y : S_Io} : ioEq x y = decide (x = y) := by
  obtain ⟨a, d⟩ := x
  obtain ⟨b, e⟩ := y
  unfold ioEq
  simp only [ba_toList_eq, Bool.and_true]
  by_cases h : a = b
  · by_cases h2 : d = e
    · simp [h, h2]
    · simp [h2]
  · rw [show (a == b) = false from by simpa using h]; simp [h]
theorem sameL_iff {α : Type} [DecidableEq α] (z : α) (eq : α → α → Bool) (he : ∀ x y, eq x y = decide (x = y)) (a b : List α) : sameL z eq a b = decide (a = b) := by
  unfold sameL
  by_cases h : a.length = b.length
  · rw [show ((a.length : Int) == (b.length : Int)) = true from by simp [h], Bool.true_and]
    have : (fun k => eq (a.getD k z) (b.getD k z)) = (fun k => decide (a.getD k z = b.getD k z)) := by funext k; exact he _ _
    rw [this, all_eq_lists a b z h]
  · rw [show ((a.length : Int) == (b.length : Int)) = false from by simp; omega]
    rw [decide_eq_false (fun e => h (by rw [e]))]; rfl
theorem sameDev_iff (a b : S_Device) : sameDev a b = decide (a = b) := by
  obtain ⟨s, u⟩ := a
  obtain ⟨s2, u2⟩ := b
  unfold sameDev
  rw [sameL_iff _ strEq (fun _ _ => strEq_iff), sameL_iff _ ioEq (fun _ _ => ioEq_iff)]
  by_cases h : s = s2
  · by_cases h2 : u = u2
    · simp [h, h2]
    · simp [h2]
  · simp [h]

theorem at_some (l : List Int) (i n : Int) (hl : l.length ≤ 1048576) (hb : isB l) (hi : 0 ≤ i ∧ i ≤ 1048576) (hn : n ≤ 1048576) : ∃ v, laws_at.f l i n = some v ∧ 0 ≤ v ∧ (v < n ∨ v = 0) := by
  unfold laws_at.f
  by_cases c : n ≤ 1
  · rw [decide_eq_true c]; exact ⟨_, rfl, by omega, .inr rfl⟩
  rw [decide_eq_false c]
  simp only [cond_false]
  cases h0 : ((l.length : Int) == 0)
  · have hne : (l.length : Int) ≠ 0 := by simpa using h0
    obtain ⟨q1, q2⟩ := tmod_lt hi.1 (show (0 : Int) < (l.length : Int) by omega)
    have w1 : w64 (i + 1) = i + 1 := w64_id (by omega) (by omega)
    obtain ⟨q3, q4⟩ := tmod_lt (show 0 ≤ i + 1 by omega) (show (0 : Int) < (l.length : Int) by omega)
    have q5 : 0 ≤ Int.tdiv i (l.length : Int) ∧ Int.tdiv i (l.length : Int) ≤ i := by
      rw [Int.tdiv_eq_ediv_of_nonneg hi.1]
      exact ⟨Int.ediv_nonneg hi.1 (by omega), Int.ediv_le_self _ hi.1⟩
    simp only [cond_false, if_neg hne, w1]
    rw [if_pos ⟨q1, q2⟩, if_pos ⟨q3, q4⟩, if_neg (by omega)]
    obtain ⟨b1, b2⟩ := getD_isB hb (Int.tmod i (l.length : Int)).toNat
    obtain ⟨b3, b4⟩ := getD_isB hb (Int.tmod (i + 1) (l.length : Int)).toNat
    generalize l.getD (Int.tmod i (l.length : Int)).toNat 0 = x at b1 b2 ⊢
    generalize l.getD (Int.tmod (i + 1) (l.length : Int)).toNat 0 = y at b3 b4 ⊢
    generalize Int.tdiv i (l.length : Int) = z at q5 ⊢
    have e1 : IntKind.wrap .i64 x = x := w64_id (by omega) (by omega)
    have e2 : IntKind.wrap .i64 y = y := w64_id (by omega) (by omega)
    have e3 : IntKind.wrap .i64 z = z := w64_id (by omega) (by omega)
    rw [e1, e2, e3, w64_id (x := x * 31) (by omega) (by omega), w64_id (x := x * 31 + y) (by omega) (by omega), w64_id (by omega) (by omega)]
    obtain ⟨r1, r2⟩ := tmod_lt (show 0 ≤ x * 31 + y + z by omega) (show 0 < n by omega)
    exact ⟨_, rfl, r1, .inl r2⟩
  · simp only [cond_true]
    rw [if_neg (by omega), w64_id (by omega) (by omega)]
    obtain ⟨r1, r2⟩ := tmod_lt (show 0 ≤ i * 7 by omega) (show 0 < n by omega)
    exact ⟨_, rfl, r1, .inl r2⟩

theorem wf_u8 {y : Int} (h : (Lit.int .u8 y).wf = true) : 0 ≤ y ∧ y ≤ 255 := by
  have h2 := h
  simp [Lit.wf, IntKind.min, IntKind.max, IntKind.signed, IntKind.bits] at h2
  omega
theorem src_new (l : List Int) (hl : l.length ≤ 1048576) (hb : isB l) : ∃ s, spec_l00Source.f l = some ⟨l, 0, s⟩ ∧ SrcB l 0 s 0 := by
  refine ⟨_, rfl, hl, hb, by omega, by omega, ?_⟩
  have := tmod_lt (show (0 : Int) ≤ (l.length : Int) by omega) (show (0 : Int) < 1000 by omega)
  omega

theorem src_byte (x0 : S_l00Src) (B : Int) (h : SrcB x0.code x0.at_ x0.seed B) (hB : B ≤ 2305843009213693952) : ∃ v a s, spec_l00Src_byte.f x0 = some (v, a, s) ∧ 0 ≤ v ∧ v ≤ 255 ∧ SrcB x0.code a s (B + 1) := by
  obtain ⟨code, at', seed⟩ := x0
  obtain ⟨hl, hb, h0, h1, h2, h3⟩ := h
  simp only at hl hb h0 h1 h2 h3
  unfold spec_l00Src_byte.f
  simp only [w64_id (x := at' + 1) (by omega) (by omega)]
  by_cases c : at' + 1 ≤ (code.length : Int)
  · rw [decide_eq_true c]
    have e1 : w64 (at' + 1 - 1) = at' := by rw [w64_id (by omega) (by omega)]; omega
    simp only [cond_true, e1]
    rw [if_pos (by omega), if_pos (by omega)]
    obtain ⟨q1, q2⟩ := getD_isB hb at'.toNat
    generalize code.getD at'.toNat 0 = v at q1 q2 ⊢
    have e2 : IntKind.wrap .i64 v = v := w64_id (by omega) (by omega)
    rw [e2, w64_id (x := seed * 31) (by omega) (by omega), w64_id (x := seed * 31 + v) (by omega) (by omega), w64_id (by omega) (by omega)]
    refine ⟨_, _, _, rfl, by omega, by omega, hl, hb, by omega, by omega, ?_, ?_⟩
    · rw [Int.tmod_eq_emod_of_nonneg (by omega)]; omega
    · rw [Int.tmod_eq_emod_of_nonneg (by omega)]; omega
  · rw [decide_eq_false c]
    simp only [cond_false]
    by_cases c2 : at' + 1 > 3000
    · rw [decide_eq_true c2]
      exact ⟨_, _, _, rfl, by omega, by omega, hl, hb, by omega, by omega, h2, h3⟩
    · rw [decide_eq_false c2]
      simp only [cond_false]
      rw [w64_id (x := seed * 1103515245) (by omega) (by omega), w64_id (by omega) (by omega)]
      have e3 : Int.tmod (seed * 1103515245 + 12345) 2147483648 = (seed * 1103515245 + 12345) % 2147483648 := Int.tmod_eq_emod_of_nonneg (by omega)
      rw [e3]
      have e4 : Int.tdiv ((seed * 1103515245 + 12345) % 2147483648) 65536 = (seed * 1103515245 + 12345) % 2147483648 / 65536 := Int.tdiv_eq_ediv_of_nonneg (by omega)
      rw [e4]
      have e5 : IntKind.wrap .i64 ((seed * 1103515245 + 12345) % 2147483648 / 65536) = (seed * 1103515245 + 12345) % 2147483648 / 65536 := w64_id (by omega) (by omega)
      rw [e5]
      have e6 : Int.tmod ((seed * 1103515245 + 12345) % 2147483648 / 65536) 256 = ((seed * 1103515245 + 12345) % 2147483648 / 65536) % 256 := Int.tmod_eq_emod_of_nonneg (by omega)
      rw [e6]
      exact ⟨_, _, _, rfl, by omega, by omega, hl, hb, by omega, by omega, by omega, by omega⟩

theorem src_next (x0 : S_l00Src) (n B : Int) (h : SrcB x0.code x0.at_ x0.seed B) (hB : B ≤ 1152921504606846976) : ∃ v a s, spec_l00Src_next.f x0 n = some (v, a, s) ∧ 0 ≤ v ∧ (v < n ∨ v = 0) ∧ SrcB x0.code a s (B + 3) := by
  unfold spec_l00Src_next.f
  by_cases c : n ≤ 1
  · rw [decide_eq_true c]; exact ⟨_, _, _, rfl, by omega, .inr rfl, h.up (by omega)⟩
  rw [decide_eq_false c]
  simp only [cond_false]
  by_cases c2 : n ≤ 256
  · obtain ⟨v, a, s, e, h0, h1, h2⟩ := src_byte x0 B h (by omega)
    rw [decide_eq_true c2, e]
    simp only [cond_true, Option.bind_some]
    rw [if_neg (by omega)]
    obtain ⟨q1, q2⟩ := tmod_lt h0 (show 0 < n by omega)
    exact ⟨_, _, _, rfl, q1, .inl q2, h2.up (by omega)⟩
  · rw [decide_eq_false c2]
    obtain ⟨v1, a1, s1, e1, h01, h11, h21⟩ := src_byte x0 B h (by omega)
    obtain ⟨v2, a2, s2, e2, h02, h12, h22⟩ := src_byte ⟨x0.code, a1, s1⟩ (B + 1) h21 (by omega)
    obtain ⟨v3, a3, s3, e3, h03, h13, h23⟩ := src_byte ⟨x0.code, a2, s2⟩ (B + 2) (h22.up (by omega)) (by omega)
    simp only [cond_false, e1, e2, e3, Option.bind_some]
    rw [if_neg (by omega)]
    rw [w64_id (x := v1 * 65536) (by omega) (by omega), w64_id (x := v2 * 256) (by omega) (by omega), w64_id (x := v1 * 65536 + v2 * 256) (by omega) (by omega), w64_id (by omega) (by omega)]
    obtain ⟨q1, q2⟩ := tmod_lt (show 0 ≤ v1 * 65536 + v2 * 256 + v3 by omega) (show 0 < n by omega)
    exact ⟨_, _, _, rfl, q1, .inl q2, h23.up (by omega)⟩

/-- Drawn bytes: as many as are asked for. -/
theorem src_bytes (x0 : S_l00Src) (n B : Int) (h : SrcB x0.code x0.at_ x0.seed B) (hB : B ≤ 576460752303423488) (hn : n ≤ 1048576) : ∃ t a s, spec_l00Src_bytes.f x0 n = some (t, a, s) ∧ (t.size : Int) = (if n < 0 then 0 else n) ∧ SrcB x0.code a s (B + 4194304) := by
  unfold spec_l00Src_bytes.f
  obtain ⟨r, h1, h2⟩ := loopO_wf (step := fun s : List Int × Int × Int × Int => spec_l00Src_bytes.s0 x0 n s.1 s.2.1 s.2.2.1 s.2.2.2)
    (fun s => 0 ≤ s.2.1 ∧ (s.1.length : Int) = s.2.1 ∧ (s.2.1 ≤ n ∨ s.2.1 = 0) ∧ SrcB x0.code s.2.2.1 s.2.2.2 (B + 3 * s.2.1))
    (fun r => ∃ u a s, r = .out (u, a, s) ∧ (u.length : Int) = (if n < 0 then 0 else n) ∧ SrcB x0.code a s (B + 4194304)) (fun s => (n - s.2.1).toNat) (fun s hI => by
      obtain ⟨u, i, a, sd⟩ := s
      obtain ⟨i0, hl, hle, hS⟩ := hI
      simp only at i0 hl hle hS
      by_cases c : i < n
      · obtain ⟨v, a2, s2, e, v0, v1, hS2⟩ := src_next ⟨x0.code, a, sd⟩ 256 (B + 3 * i) hS (by omega)
        simp only [spec_l00Src_bytes.s0, decide_eq_true c, cond_true, e, Option.bind_some]
        rw [if_pos (by simp; omega), w64_id (by omega) (by omega)]
        refine .inl ⟨_, rfl, ⟨by simp only; omega, by simp only [List.length_append, List.length_cons, List.length_nil]; omega, by simp only; omega, hS2.up (by simp only; omega)⟩, by simp only; omega⟩
      · simp only [spec_l00Src_bytes.s0, decide_eq_false c, cond_false]
        refine .inr ⟨_, rfl, u, a, sd, rfl, ?_, hS.up (by omega)⟩
        split <;> omega) _ (([] : List Int), 0, x0.at_, x0.seed) (Nat.le_refl _) ⟨by simp, by simp, by simp, by simpa using h⟩
  rw [h1]
  obtain ⟨u, a, s, rfl, h3, h4⟩ := h2
  refine ⟨_, a, s, rfl, ?_, h4⟩
  rw [strOfNums_size]; exact h3

theorem spec_own_eq (d : S_Device) (h : d.Sure.length ≤ 1073741824 ∧ d.Unsure.length ≤ 1073741824) : spec_l05Own.f d = some d := by
  unfold spec_l05Own.f
  rw [if_pos (by simpa using h.1), if_pos (by simpa using h.2)]; rfl

theorem spec_l05Write_eq (d : S_Device) (a : Int) (t : ByteArray) (h : d.Unsure.length ≤ 1000000) : spec_l05Write.f d a t = some ⟨d.Sure, d.Unsure ++ [⟨a, t⟩]⟩ := by
  unfold spec_l05Write.f
  rw [if_pos (by simp; omega), if_pos (by simp; omega)]; rfl

theorem src_chance (x0 : S_l00Src) (n B : Int) (h : SrcB x0.code x0.at_ x0.seed B) (hB : B ≤ 1152921504606846976) : ∃ b a s, spec_l00Src_chance.f x0 n = some (b, a, s) ∧ SrcB x0.code a s (B + 3) := by
  obtain ⟨v, a, s, e, _, _, h2⟩ := src_next x0 n B h hB
  unfold spec_l00Src_chance.f
  rw [e]
  exact ⟨_, _, _, rfl, h2⟩

/-- What the writes that were not sure make of the sectors. -/
def synced (s : List ByteArray) (u : List S_Io) : List ByteArray := u.foldl (fun s x => s.set x.At.toNat x.Data) s
theorem synced_len (u : List S_Io) : ∀ s : List ByteArray, (synced s u).length = s.length := by
  induction u with
  | nil => intro s; rfl
  | cons x r ih => intro s; simp only [synced, List.foldl_cons]; rw [show (List.foldl (fun s (x : S_Io) => s.set x.At.toNat x.Data) (s.set x.At.toNat x.Data) r) = synced (s.set x.At.toNat x.Data) r from rfl, ih]; simp
theorem synced_mem (P : ByteArray → Prop) (u : List S_Io) : ∀ s : List ByteArray, (∀ t ∈ s, P t) → (∀ x ∈ u, P x.Data) → ∀ t ∈ synced s u, P t := by
  induction u with
  | nil => intro s h _ t ht; exact h t ht
  | cons x r ih =>
    intro s h k t ht
    refine ih (s.set x.At.toNat x.Data) (fun y hy => ?_) (fun y hy => k y (by simp [hy])) t ht
    rcases List.mem_or_eq_of_mem_set hy with hy | rfl
    · exact h y hy
    · exact k x (by simp)
theorem synced_take (s : List ByteArray) (u : List S_Io) (k : Nat) (h : k < u.length) (z : S_Io) : synced s (u.take (k + 1)) = (synced s (u.take k)).set (u.getD k z).At.toNat (u.getD k z).Data := by
  have : u.take (k + 1) = u.take k ++ [u.getD k z] := by
    rw [List.take_add_one, List.getD_eq_getElem?_getD, List.getElem?_eq_getElem h]; rfl
  rw [this]
  simp only [synced, List.foldl_append, List.foldl_cons, List.foldl_nil]
theorem spec_l05Sync_eq (d : S_Device) (hs : d.Sure.length = 40) (hu : d.Unsure.length ≤ 1000000) (ha : ∀ x ∈ d.Unsure, 0 ≤ x.At ∧ x.At ≤ 39) : spec_l05Sync.f d = some ⟨synced d.Sure d.Unsure, []⟩ := by
  unfold spec_l05Sync.f
  rw [if_pos (by simp; omega)]
  have := loopO_run (step := fun s : Int × List ByteArray => spec_l05Sync.s0 d s.1 s.2) (fun k => ((k : Int), synced d.Sure (d.Unsure.take k))) d.Unsure.length (r := .out (synced d.Sure d.Unsure)) (fun k hk => by
    have hx := ha _ (getD_mem hk z_Io)
    simp only [spec_l05Sync.s0, decide_eq_true (show (k : Int) < (d.Unsure.length : Int) by omega), cond_true, if_pos (show (0 : Int) ≤ (k : Int) ∧ (k : Int) < (d.Unsure.length : Int) by omega), Int.toNat_natCast]
    rw [if_pos (by simp only [List.nil_append]; omega), w64_id (by omega) (by omega), synced_take _ _ k hk z_Io]
    rfl) (by
    simp only [spec_l05Sync.s0]
    rw [decide_eq_false (by omega), List.take_length]; rfl)
  have this2 : loopO (fun s : Int × List ByteArray => spec_l05Sync.s0 d s.1 s.2) (0, ([] : List ByteArray) ++ d.Sure) = _ := this
  rw [this2]; rfl

theorem src_device (x0 : S_l00Src) (B : Int) (h : SrcB x0.code x0.at_ x0.seed B) (hB : B ≤ 144115188075855872) : ∃ d a s, spec_l00Src_device.f x0 = some (d, a, s) ∧ DevD d 8 ∧ SrcB x0.code a s (B + 67108864) := by
  unfold spec_l00Src_device.f
  have hN : spec_NewDevice.f = some ⟨List.replicate 40 ByteArray.empty, []⟩ := rfl
  obtain ⟨v, a1, s1, e1, p1, q1, h1⟩ := src_next x0 9 B h (by omega)
  simp only [hN, e1, Option.bind_some]
  obtain ⟨r, l1, l2⟩ := loopO_wf (step := fun s : Int × Int × Int × List ByteArray × List S_Io => spec_l00Src_device.s0 x0 s.1 s.2.1 s.2.2.1 s.2.2.2.1 s.2.2.2.2)
    (fun s => 0 ≤ s.1 ∧ s.1 ≤ 8 ∧ DevD ⟨s.2.2.2.1, s.2.2.2.2⟩ (8 - s.1.toNat) ∧ SrcB x0.code s.2.1 s.2.2.1 (B + 3 + (8 - s.1) * 4194316))
    (fun r => ∃ a s su un, r = .out (a, s, su, un) ∧ DevD ⟨su, un⟩ 8 ∧ SrcB x0.code a s (B + 67108864)) (fun s => s.1.toNat) (fun s hI => by
      obtain ⟨i, a, sd, su, un⟩ := s
      obtain ⟨i0, i8, hd, hS⟩ := hI
      simp only at i0 i8 hd hS
      by_cases c : i > 0
      · obtain ⟨d1, d2, d3, d4⟩ := hd
        simp only at d1 d2 d3 d4
        obtain ⟨v1, a1, s1, e1, p1, q1, h1⟩ := src_next ⟨x0.code, a, sd⟩ 6 _ hS (by omega)
        obtain ⟨v2, a2, s2, e2, p2, q2, h2⟩ := src_next ⟨x0.code, a1, s1⟩ 7 _ h1 (by omega)
        obtain ⟨t, a3, s3, e3, p3, h3⟩ := src_bytes ⟨x0.code, a2, s2⟩ v2 _ h2 (by omega) (by omega)
        obtain ⟨b, a4, s4, e4, h4⟩ := src_chance ⟨x0.code, a3, s3⟩ 4 _ h3 (by omega)
        have ew := spec_l05Write_eq ⟨su, un⟩ v1 t (by simp only; omega)
        have ht : t.size ≤ 700 := by split at p3 <;> omega
        simp only at ew
        have hun : ∀ x ∈ un ++ [(⟨v1, t⟩ : S_Io)], (0 ≤ x.At ∧ x.At ≤ 39) ∧ x.Data.size ≤ 700 := fun x hx => by
          rcases List.mem_append.1 hx with hx | hx
          · exact d4 x hx
          · simp only [List.mem_singleton] at hx; subst hx; exact ⟨by simp only; omega, ht⟩
        simp only [spec_l00Src_device.s0, decide_eq_true c, cond_true, e1, e2, e3, ew, e4, Option.bind_some]
        rw [w64_id (by omega) (by omega)]
        cases b
        · simp only [cond_false, Option.bind_some]
          refine .inl ⟨_, rfl, ⟨by simp only; omega, by simp only; omega, ⟨d1, by simp only [List.length_append, List.length_cons, List.length_nil]; omega, d3, hun⟩, h4.up (by simp only; omega)⟩, by simp only; omega⟩
        · rw [spec_l05Sync_eq ⟨su, un ++ [(⟨v1, t⟩ : S_Io)]⟩ d1 (by simp only [List.length_append, List.length_cons, List.length_nil]; omega) (fun x hx => (hun x hx).1)]
          simp only [cond_true, Option.bind_some]
          refine .inl ⟨_, rfl, ⟨by simp only; omega, by simp only; omega, ⟨by simp only [synced_len]; exact d1, by simp, synced_mem (fun t => t.size ≤ 700) _ _ d3 (fun x hx => (hun x hx).2), by simp⟩, h4.up (by simp only; omega)⟩, by simp only; omega⟩
      · simp only [spec_l00Src_device.s0, decide_eq_false c, cond_false]
        have : i = 0 := by omega
        subst this
        exact .inr ⟨_, rfl, a, sd, su, un, rfl, hd, hS.up (by omega)⟩) _ (v, a1, s1, List.replicate 40 ByteArray.empty, ([] : List S_Io)) (Nat.le_refl _) ⟨by simp only; omega, by simp only; omega, ⟨by simp, by simp, fun t ht => by rw [List.eq_of_mem_replicate ht]; decide, by simp⟩, h1.up (by simp only; omega)⟩
  obtain ⟨a, s, su, un, rfl, hd, hS⟩ := l2
  rw [l1]
  simp only [Option.bind_some]
  rw [spec_own_eq ⟨su, un⟩ ⟨by have := hd.1; simp only at this ⊢; omega, by have := hd.2.1; simp only at this ⊢; omega⟩]
  exact ⟨_, _, _, rfl, hd, hS⟩

theorem deviceOf_some (l : List Int) (hl : l.length ≤ 1048576) (hb : isB l) : ∃ d, spec_DeviceOf.f l = some d ∧ DevD d 8 := by
  obtain ⟨s, e, h⟩ := src_new l hl hb
  obtain ⟨d, a, s2, e2, h2, _⟩ := src_device ⟨l, 0, s⟩ 0 h (by omega)
  exact ⟨d, by unfold spec_DeviceOf.f; simp only [e, e2, Option.bind_some], h2⟩

theorem bytesOf_some (l : List Int) (n : Int) (hl : l.length ≤ 1048576) (hb : isB l) (hn : 0 ≤ n ∧ n ≤ 1048576) : ∃ t, spec_BytesOf.f l n = some t ∧ (t.size : Int) = n := by
  obtain ⟨s, e, h⟩ := src_new l hl hb
  obtain ⟨t, a, s2, e2, h2, _⟩ := src_bytes ⟨l, 0, s⟩ n 0 h (by omega) (by omega)
  rw [if_neg (by omega)] at h2
  exact ⟨t, by unfold spec_BytesOf.f; simp only [e, e2, Option.bind_some], h2⟩

theorem isContent_eq (t : ByteArray) : impl_isContent.f t = some (decide ((t.size : Int) ≤ 700)) := rfl

theorem idx_slices_IndexFunc_string_string (l : List ByteArray) (q : ByteArray → Option Bool) (p : ByteArray → Bool) (h : l.length ≤ 1073741824) (hq : ∀ x, x ∈ l → q x = some (p x)) : slices_IndexFunc_string_string.f l q = some (idxOf l ByteArray.empty p) := by
  unfold slices_IndexFunc_string_string.f idxOf
  have := loopO_find (step := fun s => slices_IndexFunc_string_string.s0 l q s) (fun k => (k : Int)) l.length (fun k => p (l.getD k ByteArray.empty)) (fun k => (k : Int)) (t := ()) (fun k hk => by
    simp only [slices_IndexFunc_string_string.s0, decide_eq_true (show (k : Int) < (l.length : Int) by omega), cond_true, if_pos (show (0 : Int) ≤ (k : Int) ∧ (k : Int) < (l.length : Int) by omega), Int.toNat_natCast, hq _ (getD_mem hk _), Option.bind_some]
    rw [w64_id (by omega) (by omega)]
    cases p (l.getD k ByteArray.empty) <;> rfl) (by
    simp only [slices_IndexFunc_string_string.s0]
    rw [decide_eq_false (by omega)]; rfl)
  rw [show ((0 : Int)) = ((0 : Nat) : Int) from rfl, this]
  cases (List.range l.length).find? (fun k => p (l.getD k ByteArray.empty)) <;> rfl

theorem any_slices_ContainsFunc_string_string (l : List ByteArray) (q : ByteArray → Option Bool) (p : ByteArray → Bool) (h : l.length ≤ 1073741824) (hq : ∀ x, x ∈ l → q x = some (p x)) : slices_ContainsFunc_string_string.f l q = some (l.any p) := by
  unfold slices_ContainsFunc_string_string.f
  rw [idx_slices_IndexFunc_string_string l q p h hq, ← idxOf_any l ByteArray.empty p]
  rfl

theorem all_impl_areAll_string (l : List ByteArray) (q : ByteArray → Option Bool) (p : ByteArray → Bool) (h : l.length ≤ 1073741824) (hq : ∀ x, x ∈ l → q x = some (p x)) : impl_areAll_string.f l q = some (l.all p) := by
  unfold impl_areAll_string.f
  rw [any_slices_ContainsFunc_string_string l _ (fun x => !p x) h (fun x hx => by unfold impl_areAll_string__c1.f; rw [hq x hx]; rfl)]
  simp only [Option.bind_some, List.any_eq_not_all_not, Bool.not_not]

theorem idx_slices_IndexFunc_impl_Io_impl_Io (l : List S_Io) (q : S_Io → Option Bool) (p : S_Io → Bool) (h : l.length ≤ 1073741824) (hq : ∀ x, x ∈ l → q x = some (p x)) : slices_IndexFunc_impl_Io_impl_Io.f l q = some (idxOf l z_Io p) := by
  unfold slices_IndexFunc_impl_Io_impl_Io.f idxOf
  have := loopO_find (step := fun s => slices_IndexFunc_impl_Io_impl_Io.s0 l q s) (fun k => (k : Int)) l.length (fun k => p (l.getD k z_Io)) (fun k => (k : Int)) (t := ()) (fun k hk => by
    simp only [slices_IndexFunc_impl_Io_impl_Io.s0, decide_eq_true (show (k : Int) < (l.length : Int) by omega), cond_true, if_pos (show (0 : Int) ≤ (k : Int) ∧ (k : Int) < (l.length : Int) by omega), Int.toNat_natCast, hq _ (getD_mem hk _), Option.bind_some]
    rw [w64_id (by omega) (by omega)]
    cases p (l.getD k z_Io) <;> rfl) (by
    simp only [slices_IndexFunc_impl_Io_impl_Io.s0]
    rw [decide_eq_false (by omega)]; rfl)
  rw [show ((0 : Int)) = ((0 : Nat) : Int) from rfl, this]
  cases (List.range l.length).find? (fun k => p (l.getD k z_Io)) <;> rfl

theorem any_slices_ContainsFunc_impl_Io_impl_Io (l : List S_Io) (q : S_Io → Option Bool) (p : S_Io → Bool) (h : l.length ≤ 1073741824) (hq : ∀ x, x ∈ l → q x = some (p x)) : slices_ContainsFunc_impl_Io_impl_Io.f l q = some (l.any p) := by
  unfold slices_ContainsFunc_impl_Io_impl_Io.f
  rw [idx_slices_IndexFunc_impl_Io_impl_Io l q p h hq, ← idxOf_any l z_Io p]
  rfl

theorem all_impl_areAll_impl_Io (l : List S_Io) (q : S_Io → Option Bool) (p : S_Io → Bool) (h : l.length ≤ 1073741824) (hq : ∀ x, x ∈ l → q x = some (p x)) : impl_areAll_impl_Io.f l q = some (l.all p) := by
  unfold impl_areAll_impl_Io.f
  rw [any_slices_ContainsFunc_impl_Io_impl_Io l _ (fun x => !p x) h (fun x hx => by unfold impl_areAll_impl_Io__c1.f; rw [hq x hx]; rfl)]
  simp only [Option.bind_some, List.any_eq_not_all_not, Bool.not_not]

theorem within_eq (x lo hi : Int) : impl_within.f x lo hi = some (inB x lo hi) := by
  unfold impl_within.f inB; cases decide (lo ≤ x) <;> rfl

theorem isSector_eq (x : Int) : impl_isSector.f x = some (inB x 0 39) := by unfold impl_isSector.f; rw [within_eq]; rfl

theorem impl_DeviceOK_eq (d : S_Device) (h : d.Sure.length ≤ 1073741824 ∧ d.Unsure.length ≤ 1073741824) : impl_DeviceOK.f d = some (devOK d) := by
  unfold impl_DeviceOK.f devOK
  rw [all_impl_areAll_string d.Sure _ (fun t => decide ((t.size : Int) ≤ 700)) h.1 (fun x _ => isContent_eq x),
    all_impl_areAll_impl_Io d.Unsure _ ioOK h.2 (fun x _ => by
      unfold impl_DeviceOK_c1.f ioOK
      simp only [isSector_eq, isContent_eq, Option.bind_some]
      cases inB x.At 0 39 <;> rfl)]
  simp only [Option.bind_some]
  cases ((d.Sure.length : Int) == 40) <;> cases decide ((d.Unsure.length : Int) ≤ 60) <;> cases d.Sure.all (fun t => decide ((t.size : Int) ≤ 700)) <;> cases d.Unsure.all ioOK <;> rfl

def shortT (t : ByteArray) : Bool := decide ((t.size : Int) ≤ 65536)
theorem areShort_eq (l : List ByteArray) (h : l.length ≤ 1073741824) : impl_areShort.f l = some (l.all shortT) := by
  unfold impl_areShort.f
  rw [all_impl_areAll_string l impl_areShort_c1.f shortT h (fun x _ => rfl)]; rfl
theorem areShort1 (t : ByteArray) : impl_areShort.f [t] = some (shortT t) := by
  rw [areShort_eq _ (by simp)]; simp

theorem impl_own_eq (d : S_Device) (h : d.Sure.length ≤ 1073741824 ∧ d.Unsure.length ≤ 1073741824) : impl_Device_own.f d = some d := by
  unfold impl_Device_own.f slices_Clone_string_string.f slices_Clone_impl_Io_impl_Io.f
  rw [if_pos h.1, if_pos h.2]; rfl

/-! What fates make of the sectors. -/
def fateN (f : List Int) (k : Nat) : Int := if f.length = 0 then 0 else f.getD (k % f.length) 0
def tornB (old t : ByteArray) : ByteArray := t.extract 0 (t.size / 2) ++ old.extract (min (t.size / 2) old.size) old.size
def crS (f : List Int) (k : Nat) (s : List ByteArray) (x : S_Io) : List ByteArray :=
  bif fateN f k == 1 then s.set x.At.toNat x.Data else bif fateN f k == 2 then s.set x.At.toNat (tornB (s.getD x.At.toNat ByteArray.empty) x.Data) else s
def crN (f : List Int) (u : List S_Io) (s : List ByteArray) : Nat → List ByteArray
  | 0 => s
  | k + 1 => crS f k (crN f u s k) (u.getD k z_Io)
theorem crS_len (f : List Int) (k : Nat) (s : List ByteArray) (x : S_Io) : (crS f k s x).length = s.length := by
  unfold crS
  cases fateN f k == 1 <;> cases fateN f k == 2 <;> simp
theorem tornB_size (old t : ByteArray) (h : old.size ≤ 700) (h2 : t.size ≤ 700) : (tornB old t).size ≤ 700 := by
  unfold tornB
  rw [ByteArray.size_append, ByteArray.size_extract, ByteArray.size_extract]
  omega
theorem crS_size (f : List Int) (k : Nat) (s : List ByteArray) (x : S_Io) (hs : ∀ t ∈ s, t.size ≤ 700) (hx : x.Data.size ≤ 700) : ∀ t ∈ crS f k s x, t.size ≤ 700 := by
  have hold : (s.getD x.At.toNat ByteArray.empty).size ≤ 700 := by
    by_cases h : x.At.toNat < s.length
    · exact hs _ (getD_mem h _)
    · rw [List.getD_eq_getElem?_getD, List.getElem?_eq_none (by omega)]; simp
  unfold crS
  intro t ht
  cases h1 : fateN f k == 1
  · rw [h1] at ht
    cases h2 : fateN f k == 2
    · rw [h2] at ht; exact hs t ht
    · rw [h2] at ht
      rcases List.mem_or_eq_of_mem_set ht with ht | rfl
      · exact hs t ht
      · exact tornB_size _ _ hold hx
  · rw [h1] at ht
    rcases List.mem_or_eq_of_mem_set ht with ht | rfl
    · exact hs t ht
    · exact hx
theorem crN_inv (f : List Int) (u : List S_Io) (s : List ByteArray) (hs : ∀ t ∈ s, t.size ≤ 700) (hu : ∀ x ∈ u, x.Data.size ≤ 700) : ∀ k, k ≤ u.length → (crN f u s k).length = s.length ∧ ∀ t ∈ crN f u s k, t.size ≤ 700
  | 0, _ => ⟨rfl, hs⟩
  | k + 1, h => by
    obtain ⟨h1, h2⟩ := crN_inv f u s hs hu k (by omega)
    exact ⟨by rw [crN, crS_len, h1], crS_size f k _ _ h2 (hu _ (getD_mem (by omega) _))⟩
theorem fate_eq (f : List Int) (k : Nat) (hf : f.length ≤ 1048576) : ((bif (decide ((f.length : Int) > 0)) then (if (f.length : Int) = 0 then none else (if 0 ≤ (Int.tmod (k : Int) (f.length : Int)) ∧ (Int.tmod (k : Int) (f.length : Int)) < (f.length : Int) then (some (f.getD (Int.tmod (k : Int) (f.length : Int)).toNat 0)) else none)) else (some 0)) : Option (Int)) = some (fateN f k) := by
  unfold fateN
  by_cases h : f.length = 0
  · rw [if_pos h, h]; rfl
  · have e : Int.tmod (k : Int) (f.length : Int) = ((k % f.length : Nat) : Int) := by
      rw [Int.tmod_eq_emod_of_nonneg (by omega)]; exact (Int.natCast_emod k f.length).symm
    have hl : k % f.length < f.length := Nat.mod_lt _ (by omega)
    rw [if_neg h, decide_eq_true (show (f.length : Int) > 0 by omega), cond_true, if_neg (by omega), e, if_pos (by omega), Int.toNat_natCast]
theorem half_eq (t : ByteArray) (h : t.size ≤ 700) : IntKind.wrap .i64 (Int.tdiv (t.size : Int) 2) = ((t.size / 2 : Nat) : Int) := by
  have e : Int.tdiv (t.size : Int) 2 = ((t.size / 2 : Nat) : Int) := by
    rw [Int.tdiv_eq_ediv_of_nonneg (by omega)]; omega
  rw [e]
  exact w64_id (by omega) (by omega)
theorem min_eq (a b : Nat) : (if (a : Int) < (b : Int) then (a : Int) else (b : Int)) = ((min b a : Nat) : Int) := by
  split <;> omega
theorem impl_crash_eq (d : S_Device) (f : List Int) (hs : d.Sure.length = 40) (hu : d.Unsure.length ≤ 1000000) (ha : ∀ x ∈ d.Unsure, (0 ≤ x.At ∧ x.At ≤ 39) ∧ x.Data.size ≤ 700) (hz : ∀ t ∈ d.Sure, t.size ≤ 700) (hf : f.length ≤ 1048576) :
    impl_Device_crash.f d f = some ⟨crN f d.Unsure d.Sure d.Unsure.length, []⟩ := by
  unfold impl_Device_crash.f slices_Clone_string_string.f
  rw [if_pos (by omega)]
  simp only [Option.bind_some]
  have := loopO_run (step := fun s : Int × List ByteArray => impl_Device_crash.s0 d f d.Sure s.1 s.2) (fun k => ((k : Int), crN f d.Unsure d.Sure k)) d.Unsure.length (r := .out (crN f d.Unsure d.Sure d.Unsure.length)) (fun k hk => by
    obtain ⟨hx, hd⟩ := ha _ (getD_mem hk z_Io)
    obtain ⟨i1, i2⟩ := crN_inv f d.Unsure d.Sure hz (fun x hx => (ha x hx).2) k (by omega)
    have hold : ((crN f d.Unsure d.Sure k).getD (d.Unsure.getD k z_Io).At.toNat ByteArray.empty).size ≤ 700 := i2 _ (getD_mem (by omega) _)
    show _ = some (Sum.inl (((k + 1 : Nat) : Int), crS f k (crN f d.Unsure d.Sure k) (d.Unsure.getD k z_Io)))
    generalize crN f d.Unsure d.Sure k = s at i1 i2 hold ⊢
    simp only [impl_Device_crash.s0, decide_eq_true (show (k : Int) < (d.Unsure.length : Int) by omega), cond_true, if_pos (show (0 : Int) ≤ (k : Int) ∧ (k : Int) < (d.Unsure.length : Int) by omega), Int.toNat_natCast, fate_eq f k hf, Option.bind_some, half_eq _ hd, min_eq]
    rw [w64_id (by omega) (by omega)]
    unfold crS
    cases h1 : fateN f k == 1
    · cases h2 : fateN f k == 2
      · rfl
      · have c1 : (((d.Unsure.getD k z_Io).Data.extract 0 ((d.Unsure.getD k z_Io).Data.size / 2)).size + ((s.getD (d.Unsure.getD k z_Io).At.toNat ByteArray.empty).extract (min ((d.Unsure.getD k z_Io).Data.size / 2) (s.getD (d.Unsure.getD k z_Io).At.toNat ByteArray.empty).size) (s.getD (d.Unsure.getD k z_Io).At.toNat ByteArray.empty).size).size) ≤ 1152921504606846976 := by
          rw [ByteArray.size_extract, ByteArray.size_extract]; omega
        simp only [cond_true, cond_false, if_pos (show (0 : Int) ≤ (d.Unsure.getD k z_Io).At ∧ (d.Unsure.getD k z_Io).At < (d.Sure.length : Int) by omega)]
        rw [if_pos (by omega), if_pos (by omega), if_pos c1]
        rfl
    · simp only [cond_true, if_pos (show (0 : Int) ≤ (d.Unsure.getD k z_Io).At ∧ (d.Unsure.getD k z_Io).At < (d.Sure.length : Int) by omega), Option.bind_some]
      rfl) (by
    simp only [impl_Device_crash.s0]
    rw [decide_eq_false (by omega)]; rfl)
  have this2 : loopO (fun s : Int × List ByteArray => impl_Device_crash.s0 d f d.Sure s.1 s.2) (0, d.Sure) = _ := this
  rw [this2]; rfl

theorem impl_sync_eq (d : S_Device) (hs : d.Sure.length = 40) (hu : d.Unsure.length ≤ 1000000) (ha : ∀ x ∈ d.Unsure, 0 ≤ x.At ∧ x.At ≤ 39) : impl_Device_sync.f d = some ⟨synced d.Sure d.Unsure, []⟩ := by
  unfold impl_Device_sync.f impl_Device_crash.f slices_Clone_string_string.f
  rw [if_pos (by omega)]
  simp only [Option.bind_some]
  have := loopO_run (step := fun s : Int × List ByteArray => impl_Device_crash.s0 d [1] d.Sure s.1 s.2) (fun k => ((k : Int), synced d.Sure (d.Unsure.take k))) d.Unsure.length (r := .out (synced d.Sure d.Unsure)) (fun k hk => by
    have hx := ha _ (getD_mem hk z_Io)
    have e1 : Int.tmod (k : Int) 1 = 0 := by rw [Int.tmod_eq_emod_of_nonneg (by omega)]; omega
    have e2 : ((([1] : List Int).length : Int)) = 1 := rfl
    simp only [impl_Device_crash.s0, decide_eq_true (show (k : Int) < (d.Unsure.length : Int) by omega), cond_true, if_pos (show (0 : Int) ≤ (k : Int) ∧ (k : Int) < (d.Unsure.length : Int) by omega), Int.toNat_natCast, e2, e1]
    rw [decide_eq_true (by decide), if_neg (by decide), if_pos (by decide)]
    simp only [cond_true, Option.bind_some]
    rw [show ((([1] : List Int).getD (Int.toNat 0) 0) == 1) = true from rfl]
    simp only [cond_true]
    rw [if_pos (by omega), w64_id (by omega) (by omega), synced_take _ _ k hk z_Io]
    rfl) (by
    simp only [impl_Device_crash.s0]
    rw [decide_eq_false (by omega), List.take_length]; rfl)
  have this2 : loopO (fun s : Int × List ByteArray => impl_Device_crash.s0 d [1] d.Sure s.1 s.2) (0, d.Sure) = _ := this
  rw [this2]; rfl

theorem idx_slices_IndexFunc_int_int (l : List Int) (q : Int → Option Bool) (p : Int → Bool) (h : l.length ≤ 1073741824) (hq : ∀ x, x ∈ l → q x = some (p x)) : slices_IndexFunc_int_int.f l q = some (idxOf l 0 p) := by
  unfold slices_IndexFunc_int_int.f idxOf
  have := loopO_find (step := fun s => slices_IndexFunc_int_int.s0 l q s) (fun k => (k : Int)) l.length (fun k => p (l.getD k 0)) (fun k => (k : Int)) (t := ()) (fun k hk => by
    simp only [slices_IndexFunc_int_int.s0, decide_eq_true (show (k : Int) < (l.length : Int) by omega), cond_true, if_pos (show (0 : Int) ≤ (k : Int) ∧ (k : Int) < (l.length : Int) by omega), Int.toNat_natCast, hq _ (getD_mem hk _), Option.bind_some]
    rw [w64_id (by omega) (by omega)]
    cases p (l.getD k 0) <;> rfl) (by
    simp only [slices_IndexFunc_int_int.s0]
    rw [decide_eq_false (by omega)]; rfl)
  rw [show ((0 : Int)) = ((0 : Nat) : Int) from rfl, this]
  cases (List.range l.length).find? (fun k => p (l.getD k 0)) <;> rfl

theorem any_slices_ContainsFunc_int_int (l : List Int) (q : Int → Option Bool) (p : Int → Bool) (h : l.length ≤ 1073741824) (hq : ∀ x, x ∈ l → q x = some (p x)) : slices_ContainsFunc_int_int.f l q = some (l.any p) := by
  unfold slices_ContainsFunc_int_int.f
  rw [idx_slices_IndexFunc_int_int l q p h hq, ← idxOf_any l 0 p]
  rfl

theorem all_impl_areAll_int (l : List Int) (q : Int → Option Bool) (p : Int → Bool) (h : l.length ≤ 1073741824) (hq : ∀ x, x ∈ l → q x = some (p x)) : impl_areAll_int.f l q = some (l.all p) := by
  unfold impl_areAll_int.f
  rw [any_slices_ContainsFunc_int_int l _ (fun x => !p x) h (fun x hx => by unfold impl_areAll_int__c1.f; rw [hq x hx]; rfl)]
  simp only [Option.bind_some, List.any_eq_not_all_not, Bool.not_not]

theorem areFates_eq (l : List Int) (h : l.length ≤ 1073741824) : impl_areFates.f l = some (l.all (fun x => inB x 0 2)) := by
  unfold impl_areFates.f
  rw [all_impl_areAll_int l _ (fun x => inB x 0 2) h (fun x _ => by unfold impl_areFates_c1.f; rw [within_eq]; rfl)]
  rfl

theorem src_fates (x0 : S_l00Src) (B : Int) (h : SrcB x0.code x0.at_ x0.seed B) (hB : B ≤ 576460752303423488) : ∃ t a s, spec_l00Src_fates.f x0 = some (t, a, s) ∧ t.length ≤ 3 ∧ (∀ y ∈ t, 0 ≤ y ∧ y ≤ 2) := by
  unfold spec_l00Src_fates.f
  obtain ⟨n, a0, s0, e0, n0, n1, h0⟩ := src_next x0 4 B h (by omega)
  simp only [e0, Option.bind_some]
  obtain ⟨r, h1, h2⟩ := loopO_wf (step := fun s : List Int × Int × Int × Int => spec_l00Src_fates.s0 x0 s.1 s.2.1 s.2.2.1 s.2.2.2)
    (fun s => 0 ≤ s.2.1 ∧ (s.1.length : Int) + s.2.1 = n ∧ (∀ y ∈ s.1, 0 ≤ y ∧ y ≤ 2) ∧ SrcB x0.code s.2.2.1 s.2.2.2 (B + 3 + 3 * (n - s.2.1)))
    (fun r => ∃ u a s, r = .out (u, a, s) ∧ (u.length : Int) = n ∧ (∀ y ∈ u, 0 ≤ y ∧ y ≤ 2)) (fun s => s.2.1.toNat) (fun s hI => by
      obtain ⟨u, i, a, sd⟩ := s
      obtain ⟨i0, hl, hy, hS⟩ := hI
      simp only at i0 hl hy hS
      by_cases c : i > 0
      · obtain ⟨v, a2, s2, e, v0, v1, hS2⟩ := src_next ⟨x0.code, a, sd⟩ 3 _ hS (by omega)
        simp only [spec_l00Src_fates.s0, decide_eq_true c, cond_true, e, Option.bind_some]
        rw [if_pos (by simp only [List.length_cons, List.length_nil]; omega), w64_id (by omega) (by omega)]
        refine .inl ⟨_, rfl, ⟨by simp only; omega, by simp only [List.length_append, List.length_cons, List.length_nil]; omega, fun y hm => ?_, hS2.up (by simp only; omega)⟩, by simp only; omega⟩
        rcases List.mem_append.1 hm with hm | hm
        · exact hy y hm
        · simp only [List.mem_singleton] at hm; subst hm; omega
      · simp only [spec_l00Src_fates.s0, decide_eq_false c, cond_false]
        exact .inr ⟨_, rfl, u, a, sd, rfl, by omega, hy⟩) _ (([] : List Int), n, a0, s0) (Nat.le_refl _) ⟨n0, by simp, by simp, by simpa using h0⟩
  rw [h1]
  obtain ⟨u, a, s, rfl, h3, h4⟩ := h2
  exact ⟨_, a, s, rfl, by omega, h4⟩

theorem fatesOf_some (l : List Int) (hl : l.length ≤ 1048576) (hb : isB l) : ∃ t, spec_FatesOf.f l = some t ∧ t.length ≤ 3 ∧ (∀ y ∈ t, 0 ≤ y ∧ y ≤ 2) := by
  obtain ⟨s, e, h⟩ := src_new l hl hb
  obtain ⟨t, a, s2, e2, h2, h3⟩ := src_fates ⟨l, 0, s⟩ 0 h (by omega)
  exact ⟨t, by unfold spec_FatesOf.f; simp only [e, e2, Option.bind_some], h2, h3⟩

theorem l01In_eq (x lo hi : Int) : spec_l01In.f x lo hi = some (inB x lo hi) := by
  unfold spec_l01In.f inB; cases decide (lo ≤ x) <;> rfl

theorem l05In_eq (x : Int) : spec_l05In.f x = some (inB x 0 39) := by unfold spec_l05In.f; rw [l01In_eq]; rfl

theorem spec_DeviceOK_eq (d : S_Device) : spec_DeviceOK.f d = some (devOK d) := by
  unfold spec_DeviceOK.f devOK
  rw [not_gt]
  simp only [bne]
  by_cases h1 : (d.Sure.length : Int) = 40
  case neg =>
    have : ((d.Sure.length : Int) == 40) = false := by simpa using h1
    rw [this]; rfl
  rw [show ((d.Sure.length : Int) == 40) = true from by simpa using h1]
  by_cases h2 : (d.Unsure.length : Int) ≤ 60
  case neg => rw [decide_eq_false h2]; rfl
  rw [decide_eq_true h2]
  have l1 := loopO_scan (step := fun s => spec_DeviceOK.s0 d s) (fun k => (k : Int)) d.Sure.length (fun k => decide (((d.Sure.getD k ByteArray.empty).size : Int) ≤ 700)) (b := false) (t := ()) (fun k hk => by
    simp only [spec_DeviceOK.s0, decide_eq_true (show (k : Int) < (d.Sure.length : Int) by omega), cond_true, if_pos (show (0 : Int) ≤ (k : Int) ∧ (k : Int) < (d.Sure.length : Int) by omega), Int.toNat_natCast, not_gt]
    rw [w64_id (by omega) (by omega)]
    cases decide (((d.Sure.getD k ByteArray.empty).size : Int) ≤ 700) <;> rfl) (by
    simp only [spec_DeviceOK.s0]
    rw [decide_eq_false (by omega)]; rfl)
  have l2 := loopO_scan (step := fun s => spec_DeviceOK.s1 d s) (fun k => (k : Int)) d.Unsure.length (fun k => ioOK (d.Unsure.getD k z_Io)) (b := false) (t := ()) (fun k hk => by
    simp only [spec_DeviceOK.s1, decide_eq_true (show (k : Int) < (d.Unsure.length : Int) by omega), cond_true, if_pos (show (0 : Int) ≤ (k : Int) ∧ (k : Int) < (d.Unsure.length : Int) by omega), Int.toNat_natCast, not_gt, l05In_eq, Option.bind_some, ioOK]
    rw [w64_id (by omega) (by omega)]
    cases inB (d.Unsure.getD k z_Io).At 0 39 <;> cases decide (((d.Unsure.getD k z_Io).Data.size : Int) ≤ 700) <;> rfl) (by
    simp only [spec_DeviceOK.s1]
    rw [decide_eq_false (by omega)]; rfl)
  rw [show ((0 : Int)) = ((0 : Nat) : Int) from rfl, l1, l2, all_range d.Unsure z_Io ioOK, all_range d.Sure ByteArray.empty (fun t => decide ((t.size : Int) ≤ 700))]
  cases d.Sure.all (fun t => decide ((t.size : Int) ≤ 700)) <;> cases d.Unsure.all ioOK <;> rfl

theorem l05Fates_eq (l : List Int) (h : l.length ≤ 1073741824) : spec_l05Fates.f l = some (l.all (fun x => inB x 0 2)) := by
  unfold spec_l05Fates.f
  have := loopO_scan (step := fun s => spec_l05Fates.s0 l s) (fun k => (k : Int)) l.length (fun k => inB (l.getD k 0) 0 2) (b := false) (t := ()) (fun k hk => by
    simp only [spec_l05Fates.s0, l01In_eq, Option.bind_some, Int.toNat_natCast, decide_eq_true (show (k : Int) < (l.length : Int) by omega), cond_true, if_pos (show (0 : Int) ≤ (k : Int) ∧ (k : Int) < (l.length : Int) by omega)]
    rw [w64_id (by omega) (by omega)]
    cases inB (l.getD k 0) 0 2 <;> rfl) (by
    simp only [spec_l05Fates.s0]
    rw [decide_eq_false (by omega)]; rfl)
  have t2 : loopO (fun s => spec_l05Fates.s0 l s) 0 = _ := this
  rw [t2, all_range l 0 (fun x => inB x 0 2)]
  cases l.all (fun x => inB x 0 2) <;> rfl

theorem spec_crash_eq (d : S_Device) (f : List Int) (hs : d.Sure.length = 40) (hu : d.Unsure.length ≤ 1000000) (ha : ∀ x ∈ d.Unsure, (0 ≤ x.At ∧ x.At ≤ 39) ∧ x.Data.size ≤ 700) (hz : ∀ t ∈ d.Sure, t.size ≤ 700) (hf : f.length ≤ 1048576) :
    spec_l05Crash.f d f = some ⟨crN f d.Unsure d.Sure d.Unsure.length, []⟩ := by
  unfold spec_l05Crash.f
  rw [if_pos (by simp; omega)]
  have := loopO_run (step := fun s : Int × List ByteArray => spec_l05Crash.s0 d f s.1 s.2) (fun k => ((k : Int), crN f d.Unsure d.Sure k)) d.Unsure.length (r := .out (crN f d.Unsure d.Sure d.Unsure.length)) (fun k hk => by
    obtain ⟨hx, hd⟩ := ha _ (getD_mem hk z_Io)
    obtain ⟨i1, i2⟩ := crN_inv f d.Unsure d.Sure hz (fun x hx => (ha x hx).2) k (by omega)
    have hold : ((crN f d.Unsure d.Sure k).getD (d.Unsure.getD k z_Io).At.toNat ByteArray.empty).size ≤ 700 := i2 _ (getD_mem (by omega) _)
    show _ = some (Sum.inl (((k + 1 : Nat) : Int), crS f k (crN f d.Unsure d.Sure k) (d.Unsure.getD k z_Io)))
    generalize crN f d.Unsure d.Sure k = s at i1 i2 hold ⊢
    simp only [spec_l05Crash.s0, decide_eq_true (show (k : Int) < (d.Unsure.length : Int) by omega), cond_true, if_pos (show (0 : Int) ≤ (k : Int) ∧ (k : Int) < (d.Unsure.length : Int) by omega), Int.toNat_natCast, fate_eq f k hf, Option.bind_some, half_eq _ hd, min_eq, List.nil_append, if_pos (show (0 : Int) ≤ (d.Unsure.getD k z_Io).At ∧ (d.Unsure.getD k z_Io).At < (d.Sure.length : Int) by omega)]
    rw [w64_id (by omega) (by omega)]
    unfold crS
    cases h1 : fateN f k == 1
    · cases h2 : fateN f k == 2
      · rfl
      · have c1 : (((d.Unsure.getD k z_Io).Data.extract 0 ((d.Unsure.getD k z_Io).Data.size / 2)).size + ((s.getD (d.Unsure.getD k z_Io).At.toNat ByteArray.empty).extract (min ((d.Unsure.getD k z_Io).Data.size / 2) (s.getD (d.Unsure.getD k z_Io).At.toNat ByteArray.empty).size) (s.getD (d.Unsure.getD k z_Io).At.toNat ByteArray.empty).size).size) ≤ 1152921504606846976 := by
          rw [ByteArray.size_extract, ByteArray.size_extract]; omega
        simp only [cond_true, cond_false]
        rw [if_pos (by omega), if_pos (by omega), if_pos c1]
        rfl
    · rfl) (by
    simp only [spec_l05Crash.s0]
    rw [decide_eq_false (by omega)]; rfl)
  have this2 : loopO (fun s : Int × List ByteArray => spec_l05Crash.s0 d f s.1 s.2) (0, ([] : List ByteArray) ++ d.Sure) = _ := this
  rw [this2]; rfl

theorem sameTexts_refl (l : List ByteArray) (h : l.length ≤ 1048576) : laws_sameTexts.f l l = some true := by
  unfold laws_sameTexts.f
  rw [show ((l.length : Int) != (l.length : Int)) = false from by simp]
  have := loopO_run (step := fun s => laws_sameTexts.s0 l l s) (fun k => (k : Int)) l.length (r := .out ()) (fun k hk => by
    simp only [laws_sameTexts.s0, decide_eq_true (show (k : Int) < (l.length : Int) by omega), cond_true, if_pos (show (0 : Int) ≤ (k : Int) ∧ (k : Int) < (l.length : Int) by omega), Int.toNat_natCast, bs_self, Bool.not_true, cond_false]
    rw [w64_id (by omega) (by omega)]
    rfl) (by
    simp only [laws_sameTexts.s0]
    rw [decide_eq_false (by omega)]; rfl)
  have this2 : loopO (fun s => laws_sameTexts.s0 l l s) 0 = _ := this
  rw [cond_false, this2]; rfl

theorem sameDevice_refl (d : S_Device) (h : d.Sure.length ≤ 1048576) (h2 : d.Unsure.length ≤ 1048576) : laws_sameDevice.f d d = some true := by
  unfold laws_sameDevice.f
  rw [sameTexts_refl d.Sure h]
  have := loopO_run (step := fun s => laws_sameDevice.s0 d d s) (fun k => (k : Int)) d.Unsure.length (r := .out ()) (fun k hk => by
    simp only [laws_sameDevice.s0, decide_eq_true (show (k : Int) < (d.Unsure.length : Int) by omega), cond_true, if_pos (show (0 : Int) ≤ (k : Int) ∧ (k : Int) < (d.Unsure.length : Int) by omega), Int.toNat_natCast, bs_self, beq_self_eq_true, Bool.and_self, Bool.not_true, cond_false]
    rw [w64_id (by omega) (by omega)]
    rfl) (by
    simp only [laws_sameDevice.s0]
    rw [decide_eq_false (by omega)]; rfl)
  have this2 : loopO (fun s => laws_sameDevice.s0 d d s) 0 = _ := this
  simp only [Option.bind_some, Bool.not_true, cond_false, bne_self_eq_false, this2]

end Go.Proofs.Ytlbbkehdfgjneaa
