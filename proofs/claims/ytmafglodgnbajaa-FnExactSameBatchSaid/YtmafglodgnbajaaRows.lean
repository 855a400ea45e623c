/-
  No cell of these rows narrows 'for every input' (looked for: loops, veiled, ifaces, maps, wideKeys, modest, calm, conditions, laid).
  DERIVED. THE GIVEN ROWS OF THIS SEAT. 8 by the template 'for every input the law returns true; each argument reads behind the call as it read before'; 0 by the template 'total and deterministic' (their statements: YtmafglodgnbajaaTotals.lean).
  GIVEN WITH THE SEED: the statements are not yours to turn. If you find one false, say at which input.
  Laid BY PROGRAM, IN A SANDBOX (cutbox-rows.mjs): the forced cells as the released guide's own fill.sh prints them over the translation 6c5563fcaaca34ac… (all of the seat's roots in one cut). By AI agents, Wed Nov 11 2026. No macro, syntax, notation, axiom, sorry.
-/
import Derived.Test.YtmafglodgnbajaaChecked
import GoSem.Claim
import GoSem.ClaimJoined
import GoSem.ClaimMapViews
import Derived.JoinedTies
import Derived.KernelRfl
namespace Go.Proofs.Ytmafglodgnbajaa
/- THE CELL 'sum', in the pinned program and in every row, IS THE sha256 OF THE DUMP (.gsa) THAT YtmafglodgnbajaaProg.lean LOADS. Nothing in Lean hashes anything: it is a label: what it is worth is what the hold of that sum in a sandbox is worth. -/
noncomputable def Try.pinned : Pinned := { name := "ytmafglodgnbajaa", sum := "6c5563fcaaca34ac1536b5ff7ba1c31f3e2ab60a3a7b91dedaefd547e519437f", checked := Try.checked }
namespace Rows
def none {H : Type} : Left H := { results := [], args := [] }

/-- 'laws.FnExactSameStore': WHATEVER THE INPUT: true; the input reads as it did. -/
def fnExactSameStoreSpec : ChangeSpec := { name := "fnExactSameStore", fn := fun _ => fun
  | [d1, d2] => { results := [.lit (.bool true)], args := [d1, d2] }
  | _ => none }
def fnExactSameStoreRow : OpenClaim := { program := "ytmafglodgnbajaa", sum := "6c5563fcaaca34ac1536b5ff7ba1c31f3e2ab60a3a7b91dedaefd547e519437f", func := "loop.example/g00548/laws.FnExactSameStore", spec := "fnExactSameStore", apart := false }
def FnExactSameStoreSaid : Prop := fnExactSameStoreRow.holds Try.pinned (OpenSpec.ofChange fnExactSameStoreSpec)

/-- ITS FALSE NEIGHBOUR: 'it returns false'. Refute it at one input. -/
def fnExactSameStoreWrong : ChangeSpec := { name := "fnExactSameStore", fn := fun _ => fun
  | [d1, d2] => { results := [.lit (.bool false)], args := [d1, d2] }
  | _ => none }
def FnExactSameStoreWrongFalsely : Prop := fnExactSameStoreRow.holds Try.pinned (OpenSpec.ofChange fnExactSameStoreWrong)

/-- 'laws.FnExactStoreOK': WHATEVER THE INPUT: true; the input reads as it did. -/
def fnExactStoreOKSpec : ChangeSpec := { name := "fnExactStoreOK", fn := fun _ => fun
  | [d] => { results := [.lit (.bool true)], args := [d] }
  | _ => none }
def fnExactStoreOKRow : OpenClaim := { program := "ytmafglodgnbajaa", sum := "6c5563fcaaca34ac1536b5ff7ba1c31f3e2ab60a3a7b91dedaefd547e519437f", func := "loop.example/g00548/laws.FnExactStoreOK", spec := "fnExactStoreOK", unfollowed := true, recurses := true, apart := false }
def FnExactStoreOKSaid : Prop := fnExactStoreOKRow.holds Try.pinned (OpenSpec.ofChange fnExactStoreOKSpec)

/-- ITS FALSE NEIGHBOUR: 'it returns false'. Refute it at one input. -/
def fnExactStoreOKWrong : ChangeSpec := { name := "fnExactStoreOK", fn := fun _ => fun
  | [d] => { results := [.lit (.bool false)], args := [d] }
  | _ => none }
def FnExactStoreOKWrongFalsely : Prop := fnExactStoreOKRow.holds Try.pinned (OpenSpec.ofChange fnExactStoreOKWrong)

/-- 'laws.FnExactActOK': WHATEVER THE INPUT: true; the input reads as it did. -/
def fnExactActOKSpec : ChangeSpec := { name := "fnExactActOK", fn := fun _ => fun
  | [d] => { results := [.lit (.bool true)], args := [d] }
  | _ => none }
def fnExactActOKRow : OpenClaim := { program := "ytmafglodgnbajaa", sum := "6c5563fcaaca34ac1536b5ff7ba1c31f3e2ab60a3a7b91dedaefd547e519437f", func := "loop.example/g00548/laws.FnExactActOK", spec := "fnExactActOK", unfollowed := true, recurses := true, apart := false }
def FnExactActOKSaid : Prop := fnExactActOKRow.holds Try.pinned (OpenSpec.ofChange fnExactActOKSpec)

/-- ITS FALSE NEIGHBOUR: 'it returns false'. Refute it at one input. -/
def fnExactActOKWrong : ChangeSpec := { name := "fnExactActOK", fn := fun _ => fun
  | [d] => { results := [.lit (.bool false)], args := [d] }
  | _ => none }
def FnExactActOKWrongFalsely : Prop := fnExactActOKRow.holds Try.pinned (OpenSpec.ofChange fnExactActOKWrong)

/-- 'laws.FnExactSameBatch': WHATEVER THE INPUT: true; the input reads as it did. -/
def fnExactSameBatchSpec : ChangeSpec := { name := "fnExactSameBatch", fn := fun _ => fun
  | [d1, d2] => { results := [.lit (.bool true)], args := [d1, d2] }
  | _ => none }
def fnExactSameBatchRow : OpenClaim := { program := "ytmafglodgnbajaa", sum := "6c5563fcaaca34ac1536b5ff7ba1c31f3e2ab60a3a7b91dedaefd547e519437f", func := "loop.example/g00548/laws.FnExactSameBatch", spec := "fnExactSameBatch", unfollowed := true, recurses := true, apart := false }
def FnExactSameBatchSaid : Prop := fnExactSameBatchRow.holds Try.pinned (OpenSpec.ofChange fnExactSameBatchSpec)

/-- ITS FALSE NEIGHBOUR: 'it returns false'. Refute it at one input. -/
def fnExactSameBatchWrong : ChangeSpec := { name := "fnExactSameBatch", fn := fun _ => fun
  | [d1, d2] => { results := [.lit (.bool false)], args := [d1, d2] }
  | _ => none }
def FnExactSameBatchWrongFalsely : Prop := fnExactSameBatchRow.holds Try.pinned (OpenSpec.ofChange fnExactSameBatchWrong)

/-- 'laws.FnExactFlipAt': WHATEVER THE INPUT: true; the input reads as it did. -/
def fnExactFlipAtSpec : ChangeSpec := { name := "fnExactFlipAt", fn := fun _ => fun
  | [d1, d2, d3, d4] => { results := [.lit (.bool true)], args := [d1, d2, d3, d4] }
  | _ => none }
def fnExactFlipAtRow : OpenClaim := { program := "ytmafglodgnbajaa", sum := "6c5563fcaaca34ac1536b5ff7ba1c31f3e2ab60a3a7b91dedaefd547e519437f", func := "loop.example/g00548/laws.FnExactFlipAt", spec := "fnExactFlipAt", unfollowed := true, recurses := true, apart := false }
def FnExactFlipAtSaid : Prop := fnExactFlipAtRow.holds Try.pinned (OpenSpec.ofChange fnExactFlipAtSpec)

/-- ITS FALSE NEIGHBOUR: 'it returns false'. Refute it at one input. -/
def fnExactFlipAtWrong : ChangeSpec := { name := "fnExactFlipAt", fn := fun _ => fun
  | [d1, d2, d3, d4] => { results := [.lit (.bool false)], args := [d1, d2, d3, d4] }
  | _ => none }
def FnExactFlipAtWrongFalsely : Prop := fnExactFlipAtRow.holds Try.pinned (OpenSpec.ofChange fnExactFlipAtWrong)

/-- 'laws.FnExactWriteAt': WHATEVER THE INPUT: true; the input reads as it did. -/
def fnExactWriteAtSpec : ChangeSpec := { name := "fnExactWriteAt", fn := fun _ => fun
  | [d1, d2, d3] => { results := [.lit (.bool true)], args := [d1, d2, d3] }
  | _ => none }
def fnExactWriteAtRow : OpenClaim := { program := "ytmafglodgnbajaa", sum := "6c5563fcaaca34ac1536b5ff7ba1c31f3e2ab60a3a7b91dedaefd547e519437f", func := "loop.example/g00548/laws.FnExactWriteAt", spec := "fnExactWriteAt", unfollowed := true, recurses := true, apart := false }
def FnExactWriteAtSaid : Prop := fnExactWriteAtRow.holds Try.pinned (OpenSpec.ofChange fnExactWriteAtSpec)

/-- ITS FALSE NEIGHBOUR: 'it returns false'. Refute it at one input. -/
def fnExactWriteAtWrong : ChangeSpec := { name := "fnExactWriteAt", fn := fun _ => fun
  | [d1, d2, d3] => { results := [.lit (.bool false)], args := [d1, d2, d3] }
  | _ => none }
def FnExactWriteAtWrongFalsely : Prop := fnExactWriteAtRow.holds Try.pinned (OpenSpec.ofChange fnExactWriteAtWrong)

/-- 'laws.FnExactCrash': WHATEVER THE INPUT: true; the input reads as it did. -/
def fnExactCrashSpec : ChangeSpec := { name := "fnExactCrash", fn := fun _ => fun
  | [d] => { results := [.lit (.bool true)], args := [d] }
  | _ => none }
def fnExactCrashRow : OpenClaim := { program := "ytmafglodgnbajaa", sum := "6c5563fcaaca34ac1536b5ff7ba1c31f3e2ab60a3a7b91dedaefd547e519437f", func := "loop.example/g00548/laws.FnExactCrash", spec := "fnExactCrash", unfollowed := true, recurses := true, apart := false }
def FnExactCrashSaid : Prop := fnExactCrashRow.holds Try.pinned (OpenSpec.ofChange fnExactCrashSpec)

/-- ITS FALSE NEIGHBOUR: 'it returns false'. Refute it at one input. -/
def fnExactCrashWrong : ChangeSpec := { name := "fnExactCrash", fn := fun _ => fun
  | [d] => { results := [.lit (.bool false)], args := [d] }
  | _ => none }
def FnExactCrashWrongFalsely : Prop := fnExactCrashRow.holds Try.pinned (OpenSpec.ofChange fnExactCrashWrong)

/-- 'laws.FnExactWithDevice': WHATEVER THE INPUT: true; the input reads as it did. -/
def fnExactWithDeviceSpec : ChangeSpec := { name := "fnExactWithDevice", fn := fun _ => fun
  | [d1, d2] => { results := [.lit (.bool true)], args := [d1, d2] }
  | _ => none }
def fnExactWithDeviceRow : OpenClaim := { program := "ytmafglodgnbajaa", sum := "6c5563fcaaca34ac1536b5ff7ba1c31f3e2ab60a3a7b91dedaefd547e519437f", func := "loop.example/g00548/laws.FnExactWithDevice", spec := "fnExactWithDevice", unfollowed := true, recurses := true, apart := false }
def FnExactWithDeviceSaid : Prop := fnExactWithDeviceRow.holds Try.pinned (OpenSpec.ofChange fnExactWithDeviceSpec)

/-- ITS FALSE NEIGHBOUR: 'it returns false'. Refute it at one input. -/
def fnExactWithDeviceWrong : ChangeSpec := { name := "fnExactWithDevice", fn := fun _ => fun
  | [d1, d2] => { results := [.lit (.bool false)], args := [d1, d2] }
  | _ => none }
def FnExactWithDeviceWrongFalsely : Prop := fnExactWithDeviceRow.holds Try.pinned (OpenSpec.ofChange fnExactWithDeviceWrong)

/- THE SECOND FORM. 'bulk': how many values and letters a reading holds, each counted each time it is reached (what is shared counts as often as it is met; a slice's spare places count too). A statement '..UptoSaid' is the law's where the arguments, and the package variables that the reading takes, are together of bulk at most 1048576: NARROWER than '..Said'. Prove '..Said' where nothing that the law and all that it calls make is longer than what came in: it says more and counts as full. Else prove '..UptoSaid'. A law counts once. -/
mutual
def uptoBulk {H : Type} : DataW H → Nat
  | .lit (.string bytes) => bytes.length + 1
  | .lit _ => 1
  | .nil => 1
  | .ptr d => uptoBulk d + 1
  | .slice elems spare => uptoBulkAll elems + uptoBulkAll spare + 1
  | .agg parts => uptoBulkAll parts + 1
  | .iface _ d => uptoBulk d + 1
  | .map entries => uptoBulkEntries entries + 1
  | .held _ => 1
def uptoBulkAll {H : Type} : List (DataW H) → Nat
  | [] => 0
  | d :: r => uptoBulk d + uptoBulkAll r
def uptoBulkEntries {H : Type} : List (Lit × DataW H) → Nat
  | [] => 0
  | x :: r => uptoBulkEntry x + uptoBulkEntries r
def uptoBulkEntry {H : Type} : Lit × DataW H → Nat
  | (.string bytes, d) => bytes.length + uptoBulk d + 1
  | (_, d) => uptoBulk d + 1
 end
def uptoSmall : (H : Type) → List (DataW H) → Bool := fun _ ds => decide (uptoBulkAll ds ≤ 1048576)
def OpenSpec.upto (s : _root_.Go.ChangeSpec) : _root_.Go.OpenSpec := { _root_.Go.OpenSpec.ofChange s with cond := some uptoSmall }

/-- 'laws.FnExactSameStore', WHERE WHAT IT READS IS OF BULK AT MOST 1048576: true; the input reads as it did. -/
def fnExactSameStoreUptoRow : OpenClaim := { program := "ytmafglodgnbajaa", sum := "6c5563fcaaca34ac1536b5ff7ba1c31f3e2ab60a3a7b91dedaefd547e519437f", func := "loop.example/g00548/laws.FnExactSameStore", spec := "fnExactSameStore", apart := false, narrowed := true }
def FnExactSameStoreUptoSaid : Prop := fnExactSameStoreUptoRow.holds Try.pinned (OpenSpec.upto fnExactSameStoreSpec)

/-- 'laws.FnExactStoreOK', WHERE WHAT IT READS IS OF BULK AT MOST 1048576: true; the input reads as it did. -/
def fnExactStoreOKUptoRow : OpenClaim := { program := "ytmafglodgnbajaa", sum := "6c5563fcaaca34ac1536b5ff7ba1c31f3e2ab60a3a7b91dedaefd547e519437f", func := "loop.example/g00548/laws.FnExactStoreOK", spec := "fnExactStoreOK", unfollowed := true, recurses := true, apart := false, narrowed := true }
def FnExactStoreOKUptoSaid : Prop := fnExactStoreOKUptoRow.holds Try.pinned (OpenSpec.upto fnExactStoreOKSpec)

/-- 'laws.FnExactActOK', WHERE WHAT IT READS IS OF BULK AT MOST 1048576: true; the input reads as it did. -/
def fnExactActOKUptoRow : OpenClaim := { program := "ytmafglodgnbajaa", sum := "6c5563fcaaca34ac1536b5ff7ba1c31f3e2ab60a3a7b91dedaefd547e519437f", func := "loop.example/g00548/laws.FnExactActOK", spec := "fnExactActOK", unfollowed := true, recurses := true, apart := false, narrowed := true }
def FnExactActOKUptoSaid : Prop := fnExactActOKUptoRow.holds Try.pinned (OpenSpec.upto fnExactActOKSpec)

/-- 'laws.FnExactSameBatch', WHERE WHAT IT READS IS OF BULK AT MOST 1048576: true; the input reads as it did. -/
def fnExactSameBatchUptoRow : OpenClaim := { program := "ytmafglodgnbajaa", sum := "6c5563fcaaca34ac1536b5ff7ba1c31f3e2ab60a3a7b91dedaefd547e519437f", func := "loop.example/g00548/laws.FnExactSameBatch", spec := "fnExactSameBatch", unfollowed := true, recurses := true, apart := false, narrowed := true }
def FnExactSameBatchUptoSaid : Prop := fnExactSameBatchUptoRow.holds Try.pinned (OpenSpec.upto fnExactSameBatchSpec)

/-- 'laws.FnExactFlipAt', WHERE WHAT IT READS IS OF BULK AT MOST 1048576: true; the input reads as it did. -/
def fnExactFlipAtUptoRow : OpenClaim := { program := "ytmafglodgnbajaa", sum := "6c5563fcaaca34ac1536b5ff7ba1c31f3e2ab60a3a7b91dedaefd547e519437f", func := "loop.example/g00548/laws.FnExactFlipAt", spec := "fnExactFlipAt", unfollowed := true, recurses := true, apart := false, narrowed := true }
def FnExactFlipAtUptoSaid : Prop := fnExactFlipAtUptoRow.holds Try.pinned (OpenSpec.upto fnExactFlipAtSpec)

/-- 'laws.FnExactWriteAt', WHERE WHAT IT READS IS OF BULK AT MOST 1048576: true; the input reads as it did. -/
def fnExactWriteAtUptoRow : OpenClaim := { program := "ytmafglodgnbajaa", sum := "6c5563fcaaca34ac1536b5ff7ba1c31f3e2ab60a3a7b91dedaefd547e519437f", func := "loop.example/g00548/laws.FnExactWriteAt", spec := "fnExactWriteAt", unfollowed := true, recurses := true, apart := false, narrowed := true }
def FnExactWriteAtUptoSaid : Prop := fnExactWriteAtUptoRow.holds Try.pinned (OpenSpec.upto fnExactWriteAtSpec)

/-- 'laws.FnExactCrash', WHERE WHAT IT READS IS OF BULK AT MOST 1048576: true; the input reads as it did. -/
def fnExactCrashUptoRow : OpenClaim := { program := "ytmafglodgnbajaa", sum := "6c5563fcaaca34ac1536b5ff7ba1c31f3e2ab60a3a7b91dedaefd547e519437f", func := "loop.example/g00548/laws.FnExactCrash", spec := "fnExactCrash", unfollowed := true, recurses := true, apart := false, narrowed := true }
def FnExactCrashUptoSaid : Prop := fnExactCrashUptoRow.holds Try.pinned (OpenSpec.upto fnExactCrashSpec)

/-- 'laws.FnExactWithDevice', WHERE WHAT IT READS IS OF BULK AT MOST 1048576: true; the input reads as it did. -/
def fnExactWithDeviceUptoRow : OpenClaim := { program := "ytmafglodgnbajaa", sum := "6c5563fcaaca34ac1536b5ff7ba1c31f3e2ab60a3a7b91dedaefd547e519437f", func := "loop.example/g00548/laws.FnExactWithDevice", spec := "fnExactWithDevice", unfollowed := true, recurses := true, apart := false, narrowed := true }
def FnExactWithDeviceUptoSaid : Prop := fnExactWithDeviceUptoRow.holds Try.pinned (OpenSpec.upto fnExactWithDeviceSpec)

end Rows
end Go.Proofs.Ytmafglodgnbajaa
