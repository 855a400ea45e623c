/-
  No cell of these rows narrows 'for every input' (looked for: loops, veiled, ifaces, maps, wideKeys, modest, calm, conditions, laid).
  DERIVED. THE GIVEN ROWS OF THIS SEAT. 6 by the template 'for every input the law returns true; each argument reads behind the call as it read before'; 0 by the template 'total and deterministic' (their statements: YtjelagjijnpkdaaTotals.lean).
  GIVEN WITH THE SEED: the statements are not yours to turn. If you find one false, say at which input.
  Laid BY PROGRAM, IN A SANDBOX (cutbox-rows.mjs): the forced cells as the released guide's own fill.sh prints them over the translation d2d6b76c6817c922… (all of the seat's roots in one cut). By AI agents, Wed Nov 11 2026. No macro, syntax, notation, axiom, sorry.
-/
import Derived.Test.YtjelagjijnpkdaaChecked
import GoSem.Claim
import GoSem.ClaimJoined
import GoSem.ClaimMapViews
import Derived.JoinedTies
import Derived.KernelRfl
namespace Go.Proofs.Ytjelagjijnpkdaa
/- THE CELL 'sum', in the pinned program and in every row, IS THE sha256 OF THE DUMP (.gsa) THAT YtjelagjijnpkdaaProg.lean LOADS. Nothing in Lean hashes anything: it is a label: what it is worth is what the hold of that sum in a sandbox is worth. -/
noncomputable def Try.pinned : Pinned := { name := "ytjelagjijnpkdaa", sum := "d2d6b76c6817c9223093dac38477d7af3274561d397a942cf9c5a9d7ffbf469e", checked := Try.checked }
namespace Rows
def none {H : Type} : Left H := { results := [], args := [] }

/-- 'laws.FnExactOpOK': WHATEVER THE INPUT: true; the input reads as it did. -/
def fnExactOpOKSpec : ChangeSpec := { name := "fnExactOpOK", fn := fun _ => fun
  | [d] => { results := [.lit (.bool true)], args := [d] }
  | _ => none }
def fnExactOpOKRow : OpenClaim := { program := "ytjelagjijnpkdaa", sum := "d2d6b76c6817c9223093dac38477d7af3274561d397a942cf9c5a9d7ffbf469e", func := "loop.example/g00548/laws.FnExactOpOK", spec := "fnExactOpOK", apart := false }
def FnExactOpOKSaid : Prop := fnExactOpOKRow.holds Try.pinned (OpenSpec.ofChange fnExactOpOKSpec)

/-- ITS FALSE NEIGHBOUR: 'it returns false'. Refute it at one input. -/
def fnExactOpOKWrong : ChangeSpec := { name := "fnExactOpOK", fn := fun _ => fun
  | [d] => { results := [.lit (.bool false)], args := [d] }
  | _ => none }
def FnExactOpOKWrongFalsely : Prop := fnExactOpOKRow.holds Try.pinned (OpenSpec.ofChange fnExactOpOKWrong)

/-- 'laws.FnExactRegisterOK': WHATEVER THE INPUT: true; the input reads as it did. -/
def fnExactRegisterOKSpec : ChangeSpec := { name := "fnExactRegisterOK", fn := fun _ => fun
  | [d] => { results := [.lit (.bool true)], args := [d] }
  | _ => none }
def fnExactRegisterOKRow : OpenClaim := { program := "ytjelagjijnpkdaa", sum := "d2d6b76c6817c9223093dac38477d7af3274561d397a942cf9c5a9d7ffbf469e", func := "loop.example/g00548/laws.FnExactRegisterOK", spec := "fnExactRegisterOK", apart := false }
def FnExactRegisterOKSaid : Prop := fnExactRegisterOKRow.holds Try.pinned (OpenSpec.ofChange fnExactRegisterOKSpec)

/-- ITS FALSE NEIGHBOUR: 'it returns false'. Refute it at one input. -/
def fnExactRegisterOKWrong : ChangeSpec := { name := "fnExactRegisterOK", fn := fun _ => fun
  | [d] => { results := [.lit (.bool false)], args := [d] }
  | _ => none }
def FnExactRegisterOKWrongFalsely : Prop := fnExactRegisterOKRow.holds Try.pinned (OpenSpec.ofChange fnExactRegisterOKWrong)

/-- 'laws.FnExactMapOK': WHATEVER THE INPUT: true; the input reads as it did. -/
def fnExactMapOKSpec : ChangeSpec := { name := "fnExactMapOK", fn := fun _ => fun
  | [d] => { results := [.lit (.bool true)], args := [d] }
  | _ => none }
def fnExactMapOKRow : OpenClaim := { program := "ytjelagjijnpkdaa", sum := "d2d6b76c6817c9223093dac38477d7af3274561d397a942cf9c5a9d7ffbf469e", func := "loop.example/g00548/laws.FnExactMapOK", spec := "fnExactMapOK", apart := false }
def FnExactMapOKSaid : Prop := fnExactMapOKRow.holds Try.pinned (OpenSpec.ofChange fnExactMapOKSpec)

/-- ITS FALSE NEIGHBOUR: 'it returns false'. Refute it at one input. -/
def fnExactMapOKWrong : ChangeSpec := { name := "fnExactMapOK", fn := fun _ => fun
  | [d] => { results := [.lit (.bool false)], args := [d] }
  | _ => none }
def FnExactMapOKWrongFalsely : Prop := fnExactMapOKRow.holds Try.pinned (OpenSpec.ofChange fnExactMapOKWrong)

/-- 'laws.FnHex': WHATEVER THE INPUT: true; the input reads as it did. -/
def fnHexSpec : ChangeSpec := { name := "fnHex", fn := fun _ => fun
  | [d] => { results := [.lit (.bool true)], args := [d] }
  | _ => none }
def fnHexRow : OpenClaim := { program := "ytjelagjijnpkdaa", sum := "d2d6b76c6817c9223093dac38477d7af3274561d397a942cf9c5a9d7ffbf469e", func := "loop.example/g00548/laws.FnHex", spec := "fnHex", inPlace := ["internal/bytealg.IndexByteString"], unfollowed := true, recurses := true, apart := false }
def FnHexSaid : Prop := fnHexRow.holds Try.pinned (OpenSpec.ofChange fnHexSpec)

/-- ITS FALSE NEIGHBOUR: 'it returns false'. Refute it at one input. -/
def fnHexWrong : ChangeSpec := { name := "fnHex", fn := fun _ => fun
  | [d] => { results := [.lit (.bool false)], args := [d] }
  | _ => none }
def FnHexWrongFalsely : Prop := fnHexRow.holds Try.pinned (OpenSpec.ofChange fnHexWrong)

/-- 'laws.FnExactMapGet': WHATEVER THE INPUT: true; the input reads as it did. -/
def fnExactMapGetSpec : ChangeSpec := { name := "fnExactMapGet", fn := fun _ => fun
  | [d1, d2] => { results := [.lit (.bool true)], args := [d1, d2] }
  | _ => none }
def fnExactMapGetRow : OpenClaim := { program := "ytjelagjijnpkdaa", sum := "d2d6b76c6817c9223093dac38477d7af3274561d397a942cf9c5a9d7ffbf469e", func := "loop.example/g00548/laws.FnExactMapGet", spec := "fnExactMapGet", unfollowed := true, recurses := true, apart := false }
def FnExactMapGetSaid : Prop := fnExactMapGetRow.holds Try.pinned (OpenSpec.ofChange fnExactMapGetSpec)

/-- ITS FALSE NEIGHBOUR: 'it returns false'. Refute it at one input. -/
def fnExactMapGetWrong : ChangeSpec := { name := "fnExactMapGet", fn := fun _ => fun
  | [d1, d2] => { results := [.lit (.bool false)], args := [d1, d2] }
  | _ => none }
def FnExactMapGetWrongFalsely : Prop := fnExactMapGetRow.holds Try.pinned (OpenSpec.ofChange fnExactMapGetWrong)

/-- 'laws.FnExactBatchOK': WHATEVER THE INPUT: true; the input reads as it did. -/
def fnExactBatchOKSpec : ChangeSpec := { name := "fnExactBatchOK", fn := fun _ => fun
  | [d] => { results := [.lit (.bool true)], args := [d] }
  | _ => none }
def fnExactBatchOKRow : OpenClaim := { program := "ytjelagjijnpkdaa", sum := "d2d6b76c6817c9223093dac38477d7af3274561d397a942cf9c5a9d7ffbf469e", func := "loop.example/g00548/laws.FnExactBatchOK", spec := "fnExactBatchOK", unfollowed := true, recurses := true, apart := false }
def FnExactBatchOKSaid : Prop := fnExactBatchOKRow.holds Try.pinned (OpenSpec.ofChange fnExactBatchOKSpec)

/-- ITS FALSE NEIGHBOUR: 'it returns false'. Refute it at one input. -/
def fnExactBatchOKWrong : ChangeSpec := { name := "fnExactBatchOK", fn := fun _ => fun
  | [d] => { results := [.lit (.bool false)], args := [d] }
  | _ => none }
def FnExactBatchOKWrongFalsely : Prop := fnExactBatchOKRow.holds Try.pinned (OpenSpec.ofChange fnExactBatchOKWrong)

/- THE SECOND FORM. 'bulk': how many values and letters a reading holds, each counted each time it is reached (what is shared counts as often as it is met; a slice's spare places count too). A statement '..UptoSaid' is the law's where the arguments, and the package variables that the reading takes, are together of bulk at most 1048576: NARROWER than '..Said'. Prove '..Said' where nothing that the law and all that it calls make is longer than what came in: it says more and counts as full. Else prove '..UptoSaid'. A law counts once. -/
mutual
def uptoBulk {H : Type} : DataW H → Nat
  | .lit (.string bytes) => bytes.length + 1
  | .lit _ => 1
  | .nil => 1
  | .ptr d => uptoBulk d + 1
  | .slice elems spare => uptoBulkAll elems + uptoBulkAll spare + 1
  | .agg parts => uptoBulkAll parts + 1
  | .iface _ d => uptoBulk d + 1
  | .map entries => uptoBulkEntries entries + 1
  | .held _ => 1
def uptoBulkAll {H : Type} : List (DataW H) → Nat
  | [] => 0
  | d :: r => uptoBulk d + uptoBulkAll r
def uptoBulkEntries {H : Type} : List (Lit × DataW H) → Nat
  | [] => 0
  | x :: r => uptoBulkEntry x + uptoBulkEntries r
def uptoBulkEntry {H : Type} : Lit × DataW H → Nat
  | (.string bytes, d) => bytes.length + uptoBulk d + 1
  | (_, d) => uptoBulk d + 1
 end
def uptoSmall : (H : Type) → List (DataW H) → Bool := fun _ ds => decide (uptoBulkAll ds ≤ 1048576)
def OpenSpec.upto (s : _root_.Go.ChangeSpec) : _root_.Go.OpenSpec := { _root_.Go.OpenSpec.ofChange s with cond := some uptoSmall }

/-- 'laws.FnExactOpOK', WHERE WHAT IT READS IS OF BULK AT MOST 1048576: true; the input reads as it did. -/
def fnExactOpOKUptoRow : OpenClaim := { program := "ytjelagjijnpkdaa", sum := "d2d6b76c6817c9223093dac38477d7af3274561d397a942cf9c5a9d7ffbf469e", func := "loop.example/g00548/laws.FnExactOpOK", spec := "fnExactOpOK", apart := false, narrowed := true }
def FnExactOpOKUptoSaid : Prop := fnExactOpOKUptoRow.holds Try.pinned (OpenSpec.upto fnExactOpOKSpec)

/-- 'laws.FnExactRegisterOK', WHERE WHAT IT READS IS OF BULK AT MOST 1048576: true; the input reads as it did. -/
def fnExactRegisterOKUptoRow : OpenClaim := { program := "ytjelagjijnpkdaa", sum := "d2d6b76c6817c9223093dac38477d7af3274561d397a942cf9c5a9d7ffbf469e", func := "loop.example/g00548/laws.FnExactRegisterOK", spec := "fnExactRegisterOK", apart := false, narrowed := true }
def FnExactRegisterOKUptoSaid : Prop := fnExactRegisterOKUptoRow.holds Try.pinned (OpenSpec.upto fnExactRegisterOKSpec)

/-- 'laws.FnExactMapOK', WHERE WHAT IT READS IS OF BULK AT MOST 1048576: true; the input reads as it did. -/
def fnExactMapOKUptoRow : OpenClaim := { program := "ytjelagjijnpkdaa", sum := "d2d6b76c6817c9223093dac38477d7af3274561d397a942cf9c5a9d7ffbf469e", func := "loop.example/g00548/laws.FnExactMapOK", spec := "fnExactMapOK", apart := false, narrowed := true }
def FnExactMapOKUptoSaid : Prop := fnExactMapOKUptoRow.holds Try.pinned (OpenSpec.upto fnExactMapOKSpec)

/-- 'laws.FnHex', WHERE WHAT IT READS IS OF BULK AT MOST 1048576: true; the input reads as it did. -/
def fnHexUptoRow : OpenClaim := { program := "ytjelagjijnpkdaa", sum := "d2d6b76c6817c9223093dac38477d7af3274561d397a942cf9c5a9d7ffbf469e", func := "loop.example/g00548/laws.FnHex", spec := "fnHex", inPlace := ["internal/bytealg.IndexByteString"], unfollowed := true, recurses := true, apart := false, narrowed := true }
def FnHexUptoSaid : Prop := fnHexUptoRow.holds Try.pinned (OpenSpec.upto fnHexSpec)

/-- 'laws.FnExactMapGet', WHERE WHAT IT READS IS OF BULK AT MOST 1048576: true; the input reads as it did. -/
def fnExactMapGetUptoRow : OpenClaim := { program := "ytjelagjijnpkdaa", sum := "d2d6b76c6817c9223093dac38477d7af3274561d397a942cf9c5a9d7ffbf469e", func := "loop.example/g00548/laws.FnExactMapGet", spec := "fnExactMapGet", unfollowed := true, recurses := true, apart := false, narrowed := true }
def FnExactMapGetUptoSaid : Prop := fnExactMapGetUptoRow.holds Try.pinned (OpenSpec.upto fnExactMapGetSpec)

/-- 'laws.FnExactBatchOK', WHERE WHAT IT READS IS OF BULK AT MOST 1048576: true; the input reads as it did. -/
def fnExactBatchOKUptoRow : OpenClaim := { program := "ytjelagjijnpkdaa", sum := "d2d6b76c6817c9223093dac38477d7af3274561d397a942cf9c5a9d7ffbf469e", func := "loop.example/g00548/laws.FnExactBatchOK", spec := "fnExactBatchOK", unfollowed := true, recurses := true, apart := false, narrowed := true }
def FnExactBatchOKUptoSaid : Prop := fnExactBatchOKUptoRow.holds Try.pinned (OpenSpec.upto fnExactBatchOKSpec)

end Rows
end Go.Proofs.Ytjelagjijnpkdaa
