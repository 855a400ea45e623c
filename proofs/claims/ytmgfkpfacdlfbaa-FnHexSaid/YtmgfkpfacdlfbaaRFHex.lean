/- FnHex: for every input the law returns true, and its arguments read as before. No conditions but the row's own. -/
import Derived.Test.YtmgfkpfacdlfbaaPFHex
namespace Go.Proofs.Ytmgfkpfacdlfbaa.RFHex
open Go Go.Z Go.Proofs Go.MuLone Go.ChangeShapes Go.WideShapes Go.ChangeAt Go.RowKit
set_option linter.unusedVariables false
set_option linter.unusedSimpArgs false
def DIG : ByteArray := ⟨#[48, 49, 50, 51, 52, 53, 54, 55, 56, 57, 97, 98, 99, 100, 101, 102]⟩
def hxd (k : Int) : Int := byteAt DIG k
def hexL : List Int → List Int
  | [] => []
  | b :: r => hxd (b / 16) :: hxd (b % 16) :: hexL r
theorem hexL_len : ∀ l, (hexL l).length = 2 * l.length
  | [] => rfl
  | b :: r => by simp only [hexL, List.length_cons, hexL_len r]; omega
theorem hexL_getD (tl : List Int) : ∀ (l : List Int) (j : Nat), j < l.length → (hexL l ++ tl).getD (2 * j) 0 = hxd ((l.getD j 0) / 16) ∧ (hexL l ++ tl).getD (2 * j + 1) 0 = hxd ((l.getD j 0) % 16)
  | [], j, h => by simp at h
  | b :: r, 0, _ => by simp [hexL]
  | b :: r, j + 1, h => by
    have ih := hexL_getD tl r j (by simpa using h)
    have e1 : 2 * (j + 1) = 2 * j + 1 + 1 := by omega
    simp only [hexL, List.cons_append, e1, List.getD_cons_succ]
    exact ih
set_option maxRecDepth 100000 in
theorem and15 : ∀ n : Nat, n < 256 → IntKind.wrap .u8 ((BitVec.ofInt 8 (n : Int) &&& BitVec.ofInt 8 15).toNat : Int) = ((n % 16 : Nat) : Int) := by decide +kernel
set_option maxRecDepth 100000 in
theorem hxd_idx : ∀ n : Nat, n < 16 → idxB DIG (hxd (n : Int)) = (n : Int) ∧ 0 ≤ hxd (n : Int) ∧ hxd (n : Int) ≤ 255 := by decide +kernel
theorem idx_g : idxB DIG 103 = -1 := by decide +kernel
theorem and15i {b : Int} (h0 : 0 ≤ b) (h1 : b ≤ 255) : IntKind.wrap .u8 ((BitVec.ofInt 8 b &&& BitVec.ofInt 8 15).toNat : Int) = b % 16 := by
  have := and15 b.toNat (by omega)
  have e : ((b.toNat : Nat) : Int) = b := by omega
  rw [e] at this
  rw [this]; omega
theorem hxi {b : Int} (h0 : 0 ≤ b) (h1 : b < 16) : idxB DIG (hxd b) = b ∧ 0 ≤ hxd b ∧ hxd b ≤ 255 := by
  have := hxd_idx b.toNat (by omega)
  have e : ((b.toNat : Nat) : Int) = b := by omega
  rwa [e] at this
theorem hexL_isB {l : List Int} (h : isB l) : isB (hexL l) := by
  induction l with
  | nil => intro b hb; simp [hexL] at hb
  | cons x r ih =>
    obtain ⟨x0, x1⟩ := h x (by simp)
    intro b hb
    simp only [hexL, List.mem_cons] at hb
    rcases hb with rfl | rfl | hb
    · exact (hxi (by omega) (by omega)).2
    · exact (hxi (by omega) (by omega)).2
    · exact ih (fun y hy => h y (by simp [hy])) b hb
theorem hexL_take (l : List Int) (j : Nat) (h : j < l.length) : hexL (l.take (j + 1)) = hexL (l.take j) ++ [hxd ((l.getD j 0) / 16), hxd ((l.getD j 0) % 16)] := by
  induction l generalizing j with
  | nil => simp at h
  | cons b r ih =>
    cases j with
    | zero => simp [hexL]
    | succ j =>
      have := ih j (by simpa using h)
      simp only [List.take_succ_cons, hexL, List.cons_append, List.getD_cons_succ, this]
theorem fdiv16 {b : Int} : Int.fdiv b (2 ^ 4) = b / 16 := by
  rw [Int.fdiv_eq_ediv_of_nonneg _ (by decide)]; rfl
theorem impl_hex_eq (t : ByteArray) (h : t.size ≤ 65536) : impl_hexOf.f t = some (strOfNums (hexL (bytesOf t))) := by
  unfold impl_hexOf.f
  rw [if_pos (by omega)]
  have hB := bytesOf_isB t
  have hl := bytesOf_len t
  have hd : (⟨#[48, 49, 50, 51, 52, 53, 54, 55, 56, 57, 97, 98, 99, 100, 101, 102]⟩ : ByteArray).size = 16 := rfl
  have := loopO_run (step := fun s : List Int × Int => impl_hexOf.s0 t s.1 s.2) (fun k => (hexL ((bytesOf t).take k), (k : Int))) (bytesOf t).length (r := .out (hexL (bytesOf t))) (fun k hk => by
    obtain ⟨b0, b1⟩ := getD_isB hB k
    have ht := hexL_take (bytesOf t) k hk
    have hlen := hexL_len ((bytesOf t).take k)
    simp only [impl_hexOf.s0, decide_eq_true (show (k : Int) < ((bytesOf t).length : Int) by omega), cond_true, if_pos (show (0 : Int) ≤ (k : Int) ∧ (k : Int) < ((bytesOf t).length : Int) by omega), Int.toNat_natCast, fdiv16, and15i b0 b1, hd]
    rw [if_pos (by omega), if_pos (by omega), if_pos (by rw [hlen]; simp; omega), w64_id (by omega) (by omega), ht]
    rfl) (by
    simp only [impl_hexOf.s0]
    rw [decide_eq_false (by omega), List.take_length]; rfl)
  have this2 : loopO (fun s : List Int × Int => impl_hexOf.s0 t s.1 s.2) (([] : List Int), 0) = _ := this
  rw [this2]; rfl
theorem spec_hex_eq (t : ByteArray) (h : t.size ≤ 65536) : spec_l01Hex.f t = some (strOfNums (hexL (bytesOf t))) := by
  unfold spec_l01Hex.f
  have hB := bytesOf_isB t
  have hl := bytesOf_len t
  have hd : (⟨#[48, 49, 50, 51, 52, 53, 54, 55, 56, 57, 97, 98, 99, 100, 101, 102]⟩ : ByteArray).size = 16 := rfl
  have := loopO_run (step := fun s : List Int × Int => spec_l01Hex.s0 t s.1 s.2) (fun k => (hexL ((bytesOf t).take k), (k : Int))) (bytesOf t).length (r := .out (hexL (bytesOf t))) (fun k hk => by
    obtain ⟨b0, b1⟩ := getD_isB hB k
    have ht := hexL_take (bytesOf t) k hk
    have hlen := hexL_len ((bytesOf t).take k)
    have hb := byteAt_eq t (k : Int) (by omega) (by omega)
    rw [Int.toNat_natCast] at hb
    simp only [spec_l01Hex.s0, decide_eq_true (show (k : Int) < (t.size : Int) by omega), cond_true, if_pos (show (0 : Int) ≤ (k : Int) ∧ (k : Int) < (t.size : Int) by omega), hb, fdiv16, and15i b0 b1, hd]
    rw [if_pos (by omega), if_pos (by omega), if_pos (by rw [hlen]; simp; omega), w64_id (by omega) (by omega), ht]
    rfl) (by
    simp only [spec_l01Hex.s0]
    rw [decide_eq_false (by omega), List.take_length]; rfl)
  have this2 : loopO (fun s : List Int × Int => spec_l01Hex.s0 t s.1 s.2) (([] : List Int), 0) = _ := this
  rw [this2]; rfl
theorem idx_eq (s : ByteArray) (c : Int) : strings_IndexByte.f s c = some (idxB s c) := rfl
/-- UnHex of the digits of l with something behind. -/
theorem unhex_run (s : ByteArray) (l tl : List Int) (hl : l.length ≤ 65536) (hB : isB l) (hs : bytesOf s = hexL l ++ tl) {r : Ex (List Int) (ByteArray × Int)} (he : impl_UnHex.s0 s l ((2 * l.length : Nat) : Int) = some (.inr r)) : loopO (fun q : List Int × Int => impl_UnHex.s0 s q.1 q.2) (([] : List Int), 0) = some r := by
  have hsz := bytesOf_len s
  rw [hs, List.length_append, hexL_len] at hsz
  have := loopO_run (step := fun q : List Int × Int => impl_UnHex.s0 s q.1 q.2) (fun k => (l.take k, ((2 * k : Nat) : Int))) l.length (r := r) (fun k hk => by
    obtain ⟨b0, b1⟩ := getD_isB hB k
    obtain ⟨g1, g2⟩ := hexL_getD tl l k hk
    have e1 := byteAt_eq s ((2 * k : Nat) : Int) (by omega) (by omega)
    have e2 := byteAt_eq s ((2 * k + 1 : Nat) : Int) (by omega) (by omega)
    rw [Int.toNat_natCast, hs] at e1 e2
    rw [g1] at e1
    rw [g2] at e2
    have w1 : w64 (((2 * k : Nat) : Int) + 1) = ((2 * k + 1 : Nat) : Int) := by rw [w64_id (by omega) (by omega)]; omega
    obtain ⟨i1, _⟩ := hxi (b := (l.getD k 0) / 16) (by omega) (by omega)
    obtain ⟨i2, _⟩ := hxi (b := (l.getD k 0) % 16) (by omega) (by omega)
    have ht : l.take (k + 1) = l.take k ++ [l.getD k 0] := by
      rw [List.take_add_one, List.getD_eq_getElem?_getD, List.getElem?_eq_getElem hk]; rfl
    have i1' : idxB (⟨#[48, 49, 50, 51, 52, 53, 54, 55, 56, 57, 97, 98, 99, 100, 101, 102]⟩ : ByteArray) (hxd ((l.getD k 0) / 16)) = (l.getD k 0) / 16 := i1
    have i2' : idxB (⟨#[48, 49, 50, 51, 52, 53, 54, 55, 56, 57, 97, 98, 99, 100, 101, 102]⟩ : ByteArray) (hxd ((l.getD k 0) % 16)) = (l.getD k 0) % 16 := i2
    simp only [impl_UnHex.s0, decide_eq_true (show ((2 * k : Nat) : Int) < (s.size : Int) by omega), cond_true, if_pos (show (0 : Int) ≤ ((2 * k : Nat) : Int) ∧ ((2 * k : Nat) : Int) < (s.size : Int) by omega), e1, e2, w1, if_pos (show (0 : Int) ≤ ((2 * k + 1 : Nat) : Int) ∧ ((2 * k + 1 : Nat) : Int) < (s.size : Int) by omega), idx_eq, i1', i2', Option.bind_some]
    rw [decide_eq_false (by omega), decide_eq_false (by omega)]
    simp only [cond_false, Option.bind_some]
    rw [if_pos (by simp; omega), ht]
    have hv : IntKind.wrap .u8 (w64 (w64 (16 * ((l.getD k 0) / 16)) + (l.getD k 0) % 16)) = l.getD k 0 := by
      rw [w64_id (x := 16 * ((l.getD k 0) / 16)) (by omega) (by omega), w64_id (by omega) (by omega)]
      show (16 * ((l.getD k 0) / 16) + (l.getD k 0) % 16) % 256 = l.getD k 0
      omega
    rw [hv]
    congr 3
    rw [w64_id (by omega) (by omega)]; omega) (by
    rw [List.take_length]; exact he)
  exact this
theorem pure_laws_FnHex (x0 : List Int) (g0 : (x0.length ≤ maxLen ∧ ∀ y : Int, y ∈ x0 → ((Lit.int .u8 y).wf = true))) : laws_FnHex.f x0 = some true := by
  unfold laws_FnHex.f
  by_cases c : (x0.length : Int) > 1048576
  · rw [decide_eq_true c]; rfl
  rw [decide_eq_false c]
  obtain ⟨t, e, ht⟩ := textOf_some x0 (by omega) (fun b hb => wf_u8 (g0.2 b hb))
  have hB := bytesOf_isB t
  have hl := bytesOf_len t
  have hx := hexL_len (bytesOf t)
  have hbs := bytes_str (hexL_isB hB)
  have hsz := strOfNums_size (hexL (bytesOf t))
  have h1 : impl_HexOf.f t = some (strOfNums (hexL (bytesOf t)), 0) := by
    unfold impl_HexOf.f
    simp only [areShort1, shortT, decide_eq_true (show (t.size : Int) ≤ 65536 by omega), Option.bind_some, Bool.not_true, cond_false, impl_hex_eq t (by omega)]
  have h2 : spec_HexOf.f t = some (strOfNums (hexL (bytesOf t)), 0) := by
    unfold spec_HexOf.f
    simp only [decide_eq_false (show ¬ (t.size : Int) > 65536 by omega), cond_false, spec_hex_eq t (by omega), Option.bind_some]
  generalize hh : strOfNums (hexL (bytesOf t)) = s at h1 h2 hbs hsz
  have h3 : impl_UnHex.f s = some (t, 0) := by
    unfold impl_UnHex.f
    have hr := unhex_run s (bytesOf t) [] (by omega) hB (by rw [hbs, List.append_nil]) (r := .out (bytesOf t)) (by
      simp only [impl_UnHex.s0]; rw [decide_eq_false (by omega)]; rfl)
    have hm : (Int.tmod (s.size : Int) 2 != 0) = false := by
      rw [Int.tmod_eq_emod_of_nonneg (by omega)]; simp; omega
    simp only [areShort1, shortT, decide_eq_true (show (s.size : Int) ≤ 65536 by omega), Option.bind_some, Bool.not_true, cond_false, hm, hr, str_bytes]
  have z1 : (⟨#[48]⟩ : ByteArray).size = 1 := rfl
  have z2 : (⟨#[103, 48]⟩ : ByteArray).size = 2 := rfl
  have h4 : impl_UnHex.f (s ++ (⟨#[48]⟩ : ByteArray)) = some ((⟨#[]⟩ : ByteArray), 3) := by
    have hs2 : (s ++ (⟨#[48]⟩ : ByteArray)).size = s.size + 1 := by rw [ByteArray.size_append, z1]
    have hm : (Int.tmod ((s ++ (⟨#[48]⟩ : ByteArray)).size : Int) 2 != 0) = true := by
      rw [Int.tmod_eq_emod_of_nonneg (by omega), hs2]; simp; omega
    unfold impl_UnHex.f
    simp only [areShort1, shortT, decide_eq_true (show ((s ++ (⟨#[48]⟩ : ByteArray)).size : Int) ≤ 65536 by omega), Option.bind_some, Bool.not_true, cond_false, hm, cond_true]
  have h5 : impl_UnHex.f (s ++ (⟨#[103, 48]⟩ : ByteArray)) = some ((⟨#[]⟩ : ByteArray), 3) := by
    have hs2 : (s ++ (⟨#[103, 48]⟩ : ByteArray)).size = s.size + 2 := by rw [ByteArray.size_append, z2]
    have hm : (Int.tmod ((s ++ (⟨#[103, 48]⟩ : ByteArray)).size : Int) 2 != 0) = false := by
      rw [Int.tmod_eq_emod_of_nonneg (by omega), hs2]; simp; omega
    have hb2 : bytesOf (s ++ (⟨#[103, 48]⟩ : ByteArray)) = hexL (bytesOf t) ++ [103, 48] := by rw [bytesOf_append, hbs]; rfl
    have hr := unhex_run (s ++ (⟨#[103, 48]⟩ : ByteArray)) (bytesOf t) [103, 48] (by omega) hB hb2 (r := .ret ((⟨#[]⟩ : ByteArray), 3)) (by
      have e1 := byteAt_eq (s ++ (⟨#[103, 48]⟩ : ByteArray)) ((2 * (bytesOf t).length : Nat) : Int) (by omega) (by omega)
      rw [Int.toNat_natCast, hb2, List.getD_eq_getElem?_getD, List.getElem?_append_right (by omega), hx, Nat.sub_self] at e1
      have w1 : w64 (((2 * (bytesOf t).length : Nat) : Int) + 1) = ((2 * (bytesOf t).length + 1 : Nat) : Int) := by rw [w64_id (by omega) (by omega)]; omega
      have ig : idxB (⟨#[48, 49, 50, 51, 52, 53, 54, 55, 56, 57, 97, 98, 99, 100, 101, 102]⟩ : ByteArray) 103 = -1 := idx_g
      simp only [impl_UnHex.s0, decide_eq_true (show ((2 * (bytesOf t).length : Nat) : Int) < ((s ++ (⟨#[103, 48]⟩ : ByteArray)).size : Int) by omega), cond_true, if_pos (show (0 : Int) ≤ ((2 * (bytesOf t).length : Nat) : Int) ∧ ((2 * (bytesOf t).length : Nat) : Int) < ((s ++ (⟨#[103, 48]⟩ : ByteArray)).size : Int) by omega), e1, w1, if_pos (show (0 : Int) ≤ ((2 * (bytesOf t).length + 1 : Nat) : Int) ∧ ((2 * (bytesOf t).length + 1 : Nat) : Int) < ((s ++ (⟨#[103, 48]⟩ : ByteArray)).size : Int) by omega), idx_eq, Option.bind_some, List.getElem?_cons_zero, Option.getD_some, ig]
      rw [decide_eq_true (by decide)]; rfl)
    unfold impl_UnHex.f
    simp only [areShort1, shortT, decide_eq_true (show ((s ++ (⟨#[103, 48]⟩ : ByteArray)).size : Int) ≤ 65536 by omega), Option.bind_some, Bool.not_true, cond_false, hm, hr]
  simp only [cond_false, e, h1, h2, h3, h4, h5, Option.bind_some]
  rw [if_pos (by rw [z1]; omega), if_pos (by rw [z2]; omega)]
  have hw : ((s.size : Int) == w64 (2 * (t.size : Int))) = true := by rw [w64_id (by omega) (by omega)]; simp; omega
  simp [hw]
theorem cz5 : Try.prog.cellsOf 5 = 1 := by kernel_rfl
theorem own : ownKnob Try.prog.godebug = none := by kernel_rfl
theorem laidOut : laidOutB Try.prog = true := by kernel_rfl
set_option maxRecDepth 100000 in
theorem lifted (os : Os) (started : os.Started) (H : Type) (enc : TypeId × Value → H) :
    ReturnsInHanded {} Try.checked os 10 .any (Rows.fnHexSpec.pre6 enc Try.prog Try.f10 Rows.fnHexRow.domain false) (Rows.fnHexSpec.post enc Try.prog Try.f10 false true false false) := by
  refine returnsInHanded_of_change_sized (C := Try.checked) own started (by kernel_rfl) Try.func10
    (ChangeSpec.witness6 (enc := enc) (C := Try.checked) false ⟨#[], #[.slice none 0 0], []⟩ 8 (by kernel_rfl) (by kernel_rfl) (by kernel_rfl) (by kernel_rfl)) ?_
  intro W base args ds gs before hval0 hW hcnd hsz0 _
  have hval : ∀ (j : Nat) t v, Try.f10.params[j]? = some t → args[j]? = some v → Value.okWide Try.prog W .any base t v := hval0
  have hW' := hW
  obtain ⟨p, q, hA0, hV, rfl, hfz, hnd⟩ := hW
  have hA : DataW.TrodAll enc Try.prog W 0 (fun _ => true) true Try.f10.params.toList args.toList ds p := hA0
  rw [Try.params10] at hA hval
  obtain ⟨v0, vs0, d0, ds0, p0, q0, hargs, rfl, rfl, h0, r0⟩ := trodAll_cons hA
  obtain ⟨rfl, rfl, rfl⟩ := trodAll_nil r0
  obtain rfl : args = #[v0] := by cases args; simp_all
  obtain ⟨rfl, rfl⟩ := trodVars_none hV
  have k0 := h0
  have lt0 : ∀ x ∈ p0, x.block < W.heap.size := by obtain ⟨m, hm⟩ := k0; exact DataW.trod_lt m _ _ _ hm
  obtain ⟨f0, hf0⟩ := h0
  obtain ⟨y0, hy0, hg0⟩ := (opens_sl Try.underlying74 cz5 (by decide) (opens_int Try.underlying5)) H enc f0 _ _ hf0
  obtain ⟨A0_, p0_, e0, w0_⟩ : ∃ A p, v0 = Value.slice A y0.length p ∧ View (Lay.int .u8) A p y0 (heapC W) := by
    obtain ⟨A, n, c, rfl⟩ := okWide_slice Try.underlying74 (hval 0 74 v0 rfl rfl)
    obtain ⟨v, hv, A, p, rfl, hh⟩ := hy0
    simp only [Value.cells] at hv
    exact ⟨A, p, by simpa using hv, hh⟩
  subst e0
  clear hA0 hval0 hsz0
  refine (laws_FnHex_t W A0_ p0_ y0 (heapC W) w0_ (heapC_has W) true (pure_laws_FnHex y0 hg0)).mono fun e W' ⟨v, he, hv, hS⟩ => ?_
  subst he; subst hv
  have bel := hS.below
  exact ⟨_, rfl, _, _, _, [], _, [], hW', trodAll_mk1 (shutB Try.underlying4 _), (trodAll_cons_mk (Below.trod laidOut (by kernel_rfl) (of_decide_eq_true (by kernel_rfl)) k0 bel lt0) trodAll_mk0), rfl, bel.frame _, fun h => by cases h⟩
theorem over : Rows.fnHexRow.holds Try.pinned (OpenSpec.ofChange Rows.fnHexSpec) :=
  OpenClaim.holds_of_wide 10 Try.f10 rfl rfl rfl rfl rfl rfl rfl ⟨rfl, rfl, rfl, rfl, rfl⟩ rfl rfl rfl rfl rfl (by kernel_rfl) Try.func10 (by kernel_rfl)
    (of_decide_eq_true (by kernel_rfl)) (by unfold Func.isWrapper; first | (rw [if_pos (by decide +kernel)]; kernel_rfl) | (rw [if_neg (by decide +kernel)]; exact ⟨rfl, rfl⟩))
    (fun os started H enc _ => lifted os started H enc)
theorem fnHex_holds : Rows.FnHexSaid := over
end Go.Proofs.Ytmgfkpfacdlfbaa.RFHex
