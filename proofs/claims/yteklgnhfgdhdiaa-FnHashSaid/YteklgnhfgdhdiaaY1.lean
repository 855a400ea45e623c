/- The table that strconv reads, as a chunk. No conditions of its own. -/
import Derived.Test.YteklgnhfgdhdiaaZ29
import Derived.Lib.LaidTab
import Derived.Stop.LaidErr
import Derived.Shelf.LaysM
import Derived.Shelf.Strconv.Itoa3
import Derived.Shelf.Strings.OnBuilder
import Derived.Shelf.Strings.Repeat
namespace Go.Z
open Go Go.RowKit Go.Sort
/-- The table of powers that strconv reads lies in this chunk. -/
def TabK (P : Program) (c : Chunk) : Prop := ∀ w, Has w c → Lib.TabIs P w "internal/strconv.uint64pow10" .u64 Lib.pow10Tab
theorem heapC_mem {W : World} {b : Nat} {o : Obj} (h : W.heap[b]? = some o) : (b, o) ∈ heapC W := by
  simp only [heapC, List.mem_filterMap, List.mem_range, Option.map_eq_some_iff]
  exact ⟨b, (Array.getElem?_eq_some_iff.1 h).1, o, h, rfl⟩
theorem tabK_heap {P : Program} {W : World} (h : Lib.TabIs P W "internal/strconv.uint64pow10" .u64 Lib.pow10Tab) : TabK P (heapC W) := by
  intro w hw
  unfold Lib.TabIs World.var? at h ⊢
  cases hg : P.globalNamed "internal/strconv.uint64pow10" with
  | none => rw [hg] at h; cases h
  | some g =>
    rw [hg] at h
    simp only [Option.bind_some] at h ⊢
    cases ho : W.heap[g]? with
    | none => rw [ho] at h; cases h
    | some o =>
      have := hw _ (heapC_mem ho)
      simp only at this
      rw [this]; rw [ho] at h; exact h
theorem sat_grown (w : World) (k : Nat) (os : Array Obj) : Sat [] w (grow (w.drewN k) os) [] [] := by
  refine (F.refl w : Sat [] w w [] []).step rfl rfl rfl ?_ (fun j hj => ?_)
  · simp [grow, World.drewN]
  · simp only [grow, World.drewN]
    exact Array.getElem?_append_left hj
/-- Texts joined. -/
def joinB (l : List ByteArray) (s : ByteArray) : ByteArray := ⟨(Lib.join (l.map (·.data.toList)) s.data.toList).toArray⟩
/-- A number's numeral. -/
def itoaB (x : Int) : ByteArray := ⟨(Lib.itoa x).toArray⟩
/-- One's own row, cut short. -/
theorem Sat.cutRow {M : List Nat} {w0 w : World} {Δ Γ : List (Nat × Chunk)} (k : Nat) {α : Type} {L : Lay α} {E : TypeId} {A : Option Addr} {cap : Nat} {xs : List α} {c : Chunk} (sz m : Nat) (hf : L.Flat) (hs : Sat M w0 w Δ Γ) (hg : kget Γ k = some c) (h : Own L E A cap xs c) (hm : m ≤ xs.length) :
    ∃ c', Own L E (if cap = 0 then A else A.map (·.add (0 * sz))) (cap - 0) (xs.take m) c' ∧ Sat M w0 w Δ ((k, c') :: kdel Γ k) := by
  rcases h with ⟨rfl, rfl, rfl, rfl⟩ | ⟨b, rfl, cs, ess, d, rfl, hall, htake, hsz, hle, htop⟩
  · exact ⟨[], by simpa using Own.nil L E, hs.top hg⟩
  · have hall := hall.flat hf
    obtain ⟨h1, _⟩ := hall.takeF rfl m
    obtain ⟨h3, _⟩ := flatten_take ess m hall.each
    have hs1 := hs.less (k := k) [(b, .cells cs E (0, 0))] d hg (by simp)
    refine ⟨_, .inr ⟨b, ?_, cs, ess.take m, [], rfl, h1, ?_, hsz, by rw [List.length_take]; omega, htop⟩, hs1⟩
    · split
      · rfl
      · simp only [Option.map_some, addr_add0, Nat.zero_mul]
    · rw [List.length_take, Nat.min_eq_left hm, h3, ← htake, List.take_take, Nat.min_eq_left (Nat.mul_le_mul_right _ hm)]
/-- What is behind a place, cleared. -/
def clrL {α : Type} (xs : List α) (i : Nat) (z : α) : List α := xs.take i ++ List.replicate (xs.length - i) z
theorem clrL_len {α : Type} {xs : List α} {i : Nat} (z : α) (h : i ≤ xs.length) : (clrL xs i z).length = xs.length := by simp [clrL]; omega
theorem zeroCells_one (u : Value) (n : Nat) : (Builtin.zeroCells #[u] n).toList = List.replicate n u := by
  apply List.ext_getElem
  · simp [size_zeroCells]
  · intro j h1 h2
    simp [Builtin.zeroCells, Nat.mod_one]
theorem run_clear0 {P : Program} {w : World} {t e ty : TypeId} {A : Option Addr} {c : Nat} (ht : P.underlying t = some (.slice e)) : (Builtin.clear_ #[t] ty #[.slice A 0 c]).run P w = .ok (.tuple #[]) w := by
  cases A <;> simp [Builtin.clear_, run_underlying ht]
section steps
variable {P : Program} {ops : List Oper} {Q : Exit → Act → World → Prop} {o : Oper} {rest : List Oper} {a : Act} {w w' : World} {σ : List (Nat × Value)} {n d : Nat} {v : Value} {M : List Nat} {w0 : World} {Δ Γ : List (Nat × Chunk)}
/-- clear OF THE TAIL OF ONE'S OWN ROW (elements of one cell). -/
theorem sclr (k : Nat) {α : Type} {L : Lay α} {E t : TypeId} {A : Option Addr} {cap i m : Nat} {xs : List α} {c : Chunk} {x : Operand} {z : α} {zv : Value} (hf : L.Flat) (hs : Sat M w0 w Δ Γ) (hg : kget Γ k = some c) (hown : Own L E A cap xs c)
    (ho : o.op = .call ⟨.builtin .clear, #[x], #[t]⟩) (hk : Kn σ n a) (hd : o.dst = none) (hx : rho? σ x = some (.slice (if cap = i then A else A.map (·.add (i * 1))) m (cap - i))) (hm : m = xs.length - i) (hc : chk0 ops σ o = true)
    (ht : P.underlying t = some (.slice E)) (hz : zeroB P E = some zv) (hzc : zv.cells = #[zv]) (h1 : zv.oneCell' = true) (hLs : L.size = 1) (hzo : L.own z [zv] []) (hi : i ≤ xs.length)
    (next : ∀ c' w' a, Kn σ n a → Own L E A cap (clrL xs i z) c' → Sat M w0 w' Δ ((k, c') :: kdel Γ k) → wpList P ops.toArray Q rest a w') : wpList P ops.toArray Q (o :: rest) a w := by
  subst hm
  by_cases he : i = xs.length
  · subst he
    refine st_op hk hc ?_
    simp only [execOp, ho, resolve, invoke, builtin, List.map_toArray, List.map_cons, List.map_nil, rho?_eq hx, Nat.sub_self, Sem.run_bind, Sem.run_pure, Result.andThen_ok, run_clear0 ht]
    simp only [Oper.upon, hd, Act.put]
    have e : clrL xs xs.length z = xs := by simp [clrL]
    exact next c w a hk (by rw [e]; exact hown) (hs.top hg)
  · obtain ⟨b, rfl, cs, ess, cd, rfl, hall, htake, hcs, hle, htop⟩ := hown.opened (by rintro rfl; simp at hi he; omega)
    have hall := hall.flat hf
    have hs1 := hs.less (k := k) [(b, .cells cs E (0, 0))] cd hg (by simp)
    have hlt : i < xs.length := by omega
    rw [hLs, Nat.mul_one] at htake hcs
    have hxl := hall.flatten_len
    rw [hLs, Nat.mul_one] at hxl
    have hx2 : rho? σ x = some (.slice (some ⟨b, i, none⟩) (xs.length - i) (cap - i)) := by
      rw [hx, if_neg (by omega)]; simp only [Option.map_some, addr_add0, Nat.mul_one]
    have hcl : cs.toList.length = cap := by rw [Array.length_toList (xs := cs), hcs]
    have hz1 : zv.cells.size = 1 := by rw [hzc]; rfl
    refine scl k hs1 (kget_cons _ _ _) ho hk hd hx2 hc ht hz (by omega) (by rw [hzc]; simpa using h1) (by omega) (by rw [hz1]; omega) fun w' a hk hs2 => ?_
    simp only [kset, Nat.beq_refl, if_true] at hs2
    refine next _ w' a hk (.inr ⟨b, rfl, _, ess.take i ++ List.replicate (xs.length - i) [zv], [], rfl, (hall.takeF rfl i).1.app ?_, ?_, ?_, by rw [clrL_len z hi]; exact hle, htop⟩) hs2
    · have : ∀ m, AllOwn L (List.replicate m z) (List.replicate m [zv]) [] := fun m => by
        induction m with
        | zero => exact .nil
        | succ m ih => exact AllOwn.cons0 hzo ih
      exact this _
    · obtain ⟨h3, _⟩ := flatten_take ess i hall.each
      rw [hLs, Nat.mul_one] at h3
      have hf2 : ∀ m, (List.replicate m [zv]).flatten = List.replicate m zv := fun m => by
        induction m with
        | zero => rfl
        | succ m ih => rw [List.replicate_succ, List.flatten_cons, ih]; rfl
      rw [clrL_len z hi, hLs, Nat.mul_one, List.flatten_append, h3, hf2, hzc, zeroCells_one, ← htake, List.take_take, Nat.min_eq_left hi, List.toList_toArray]
      apply List.take_left'
      simp only [List.length_append, List.length_take, List.length_replicate]; omega
    · rw [hLs, Nat.mul_one, List.size_toArray, hzc, zeroCells_one]
      simp only [List.length_append, List.length_take, List.length_replicate, List.length_drop]
      rw [show (#[zv] : Array Value).size = 1 from rfl]; omega
end steps
end Go.Z
