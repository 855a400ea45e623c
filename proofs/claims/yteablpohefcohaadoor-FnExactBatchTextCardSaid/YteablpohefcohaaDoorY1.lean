/- The table that strconv reads, as a chunk. No conditions of its own. -/
import Derived.Test.YteablpohefcohaaDoorZ26
import Derived.Lib.LaidTab
import Derived.Stop.LaidErr
import Derived.Shelf.LaysM
import Derived.Shelf.Strconv.Itoa3
import Derived.Shelf.Strings.OnBuilder
namespace Go.Z
open Go Go.RowKit Go.Sort
/-- The table of powers that strconv reads lies in this chunk. -/
def TabK (P : Program) (c : Chunk) : Prop := ∀ w, Has w c → Lib.TabIs P w "internal/strconv.uint64pow10" .u64 Lib.pow10Tab
theorem heapC_mem {W : World} {b : Nat} {o : Obj} (h : W.heap[b]? = some o) : (b, o) ∈ heapC W := by
  simp only [heapC, List.mem_filterMap, List.mem_range, Option.map_eq_some_iff]
  exact ⟨b, (Array.getElem?_eq_some_iff.1 h).1, o, h, rfl⟩
theorem tabK_heap {P : Program} {W : World} (h : Lib.TabIs P W "internal/strconv.uint64pow10" .u64 Lib.pow10Tab) : TabK P (heapC W) := by
  intro w hw
  unfold Lib.TabIs World.var? at h ⊢
  cases hg : P.globalNamed "internal/strconv.uint64pow10" with
  | none => rw [hg] at h; cases h
  | some g =>
    rw [hg] at h
    simp only [Option.bind_some] at h ⊢
    cases ho : W.heap[g]? with
    | none => rw [ho] at h; cases h
    | some o =>
      have := hw _ (heapC_mem ho)
      simp only at this
      rw [this]; rw [ho] at h; exact h
theorem sat_grown (w : World) (k : Nat) (os : Array Obj) : Sat [] w (grow (w.drewN k) os) [] [] := by
  refine (F.refl w : Sat [] w w [] []).step rfl rfl rfl ?_ (fun j hj => ?_)
  · simp [grow, World.drewN]
  · simp only [grow, World.drewN]
    exact Array.getElem?_append_left hj
/-- Texts joined. -/
def joinB (l : List ByteArray) (s : ByteArray) : ByteArray := ⟨(Lib.join (l.map (·.data.toList)) s.data.toList).toArray⟩
/-- A number's numeral. -/
def itoaB (x : Int) : ByteArray := ⟨(Lib.itoa x).toArray⟩
end Go.Z
