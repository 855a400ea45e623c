/-
  No cell of these rows narrows 'for every input' (looked for: loops, veiled, ifaces, maps, wideKeys, modest, calm, conditions, laid).
  DERIVED. THE GIVEN ROWS OF THIS SEAT. 8 by the template 'for every input the law returns true; each argument reads behind the call as it read before'; 0 by the template 'total and deterministic' (their statements: YtmgfkpfacdlfbaaTotals.lean).
  GIVEN WITH THE SEED: the statements are not yours to turn. If you find one false, say at which input.
  Laid BY PROGRAM, IN A SANDBOX (cutbox-rows.mjs): the forced cells as the released guide's own fill.sh prints them over the translation fac735ef554c3205… (all of the seat's roots in one cut). By AI agents, Wed Nov 11 2026. No macro, syntax, notation, axiom, sorry.
-/
import Derived.Test.YtmgfkpfacdlfbaaChecked
import GoSem.Claim
import GoSem.ClaimJoined
import GoSem.ClaimMapViews
import Derived.JoinedTies
import Derived.KernelRfl
namespace Go.Proofs.Ytmgfkpfacdlfbaa
/- THE CELL 'sum', in the pinned program and in every row, IS THE sha256 OF THE DUMP (.gsa) THAT YtmgfkpfacdlfbaaProg.lean LOADS. Nothing in Lean hashes anything: it is a label: what it is worth is what the hold of that sum in a sandbox is worth. -/
noncomputable def Try.pinned : Pinned := { name := "ytmgfkpfacdlfbaa", sum := "fac735ef554c32056e359918d47dce316c393b9675ccb0ea3b972bc946276a94", checked := Try.checked }
namespace Rows
def none {H : Type} : Left H := { results := [], args := [] }

/-- 'laws.FnExactBucketText': WHATEVER THE INPUT: true; the input reads as it did. -/
def fnExactBucketTextSpec : ChangeSpec := { name := "fnExactBucketText", fn := fun _ => fun
  | [d] => { results := [.lit (.bool true)], args := [d] }
  | _ => none }
def fnExactBucketTextRow : OpenClaim := { program := "ytmgfkpfacdlfbaa", sum := "fac735ef554c32056e359918d47dce316c393b9675ccb0ea3b972bc946276a94", func := "loop.example/g00548/laws.FnExactBucketText", spec := "fnExactBucketText", inPlace := ["internal/abi.NoEscape"], unfollowed := true, recurses := true, apart := false }
def FnExactBucketTextSaid : Prop := fnExactBucketTextRow.holds Try.pinned (OpenSpec.ofChange fnExactBucketTextSpec)

/-- ITS FALSE NEIGHBOUR: 'it returns false'. Refute it at one input. -/
def fnExactBucketTextWrong : ChangeSpec := { name := "fnExactBucketText", fn := fun _ => fun
  | [d] => { results := [.lit (.bool false)], args := [d] }
  | _ => none }
def FnExactBucketTextWrongFalsely : Prop := fnExactBucketTextRow.holds Try.pinned (OpenSpec.ofChange fnExactBucketTextWrong)

/-- 'laws.FnExactEntryText': WHATEVER THE INPUT: true; the input reads as it did. -/
def fnExactEntryTextSpec : ChangeSpec := { name := "fnExactEntryText", fn := fun _ => fun
  | [d1, d2] => { results := [.lit (.bool true)], args := [d1, d2] }
  | _ => none }
def fnExactEntryTextRow : OpenClaim := { program := "ytmgfkpfacdlfbaa", sum := "fac735ef554c32056e359918d47dce316c393b9675ccb0ea3b972bc946276a94", func := "loop.example/g00548/laws.FnExactEntryText", spec := "fnExactEntryText", inPlace := ["internal/abi.NoEscape"], unfollowed := true, recurses := true, apart := false }
def FnExactEntryTextSaid : Prop := fnExactEntryTextRow.holds Try.pinned (OpenSpec.ofChange fnExactEntryTextSpec)

/-- ITS FALSE NEIGHBOUR: 'it returns false'. Refute it at one input. -/
def fnExactEntryTextWrong : ChangeSpec := { name := "fnExactEntryText", fn := fun _ => fun
  | [d1, d2] => { results := [.lit (.bool false)], args := [d1, d2] }
  | _ => none }
def FnExactEntryTextWrongFalsely : Prop := fnExactEntryTextRow.holds Try.pinned (OpenSpec.ofChange fnExactEntryTextWrong)

/-- 'laws.FnExactStateText': WHATEVER THE INPUT: true; the input reads as it did. -/
def fnExactStateTextSpec : ChangeSpec := { name := "fnExactStateText", fn := fun _ => fun
  | [d1, d2] => { results := [.lit (.bool true)], args := [d1, d2] }
  | _ => none }
def fnExactStateTextRow : OpenClaim := { program := "ytmgfkpfacdlfbaa", sum := "fac735ef554c32056e359918d47dce316c393b9675ccb0ea3b972bc946276a94", func := "loop.example/g00548/laws.FnExactStateText", spec := "fnExactStateText", inPlace := ["internal/abi.NoEscape"], unfollowed := true, recurses := true, apart := false }
def FnExactStateTextSaid : Prop := fnExactStateTextRow.holds Try.pinned (OpenSpec.ofChange fnExactStateTextSpec)

/-- ITS FALSE NEIGHBOUR: 'it returns false'. Refute it at one input. -/
def fnExactStateTextWrong : ChangeSpec := { name := "fnExactStateText", fn := fun _ => fun
  | [d1, d2] => { results := [.lit (.bool false)], args := [d1, d2] }
  | _ => none }
def FnExactStateTextWrongFalsely : Prop := fnExactStateTextRow.holds Try.pinned (OpenSpec.ofChange fnExactStateTextWrong)

/-- 'laws.FnExactEncOK': WHATEVER THE INPUT: true; the input reads as it did. -/
def fnExactEncOKSpec : ChangeSpec := { name := "fnExactEncOK", fn := fun _ => fun
  | [d] => { results := [.lit (.bool true)], args := [d] }
  | _ => none }
def fnExactEncOKRow : OpenClaim := { program := "ytmgfkpfacdlfbaa", sum := "fac735ef554c32056e359918d47dce316c393b9675ccb0ea3b972bc946276a94", func := "loop.example/g00548/laws.FnExactEncOK", spec := "fnExactEncOK", unfollowed := true, recurses := true, apart := false }
def FnExactEncOKSaid : Prop := fnExactEncOKRow.holds Try.pinned (OpenSpec.ofChange fnExactEncOKSpec)

/-- ITS FALSE NEIGHBOUR: 'it returns false'. Refute it at one input. -/
def fnExactEncOKWrong : ChangeSpec := { name := "fnExactEncOK", fn := fun _ => fun
  | [d] => { results := [.lit (.bool false)], args := [d] }
  | _ => none }
def FnExactEncOKWrongFalsely : Prop := fnExactEncOKRow.holds Try.pinned (OpenSpec.ofChange fnExactEncOKWrong)

/-- 'laws.FnExactReadBucket': WHATEVER THE INPUT: true; the input reads as it did. -/
def fnExactReadBucketSpec : ChangeSpec := { name := "fnExactReadBucket", fn := fun _ => fun
  | [d] => { results := [.lit (.bool true)], args := [d] }
  | _ => none }
def fnExactReadBucketRow : OpenClaim := { program := "ytmgfkpfacdlfbaa", sum := "fac735ef554c32056e359918d47dce316c393b9675ccb0ea3b972bc946276a94", func := "loop.example/g00548/laws.FnExactReadBucket", spec := "fnExactReadBucket", unfollowed := true, recurses := true, apart := false }
def FnExactReadBucketSaid : Prop := fnExactReadBucketRow.holds Try.pinned (OpenSpec.ofChange fnExactReadBucketSpec)

/-- ITS FALSE NEIGHBOUR: 'it returns false'. Refute it at one input. -/
def fnExactReadBucketWrong : ChangeSpec := { name := "fnExactReadBucket", fn := fun _ => fun
  | [d] => { results := [.lit (.bool false)], args := [d] }
  | _ => none }
def FnExactReadBucketWrongFalsely : Prop := fnExactReadBucketRow.holds Try.pinned (OpenSpec.ofChange fnExactReadBucketWrong)

/-- 'laws.FnExactReadEntry': WHATEVER THE INPUT: true; the input reads as it did. -/
def fnExactReadEntrySpec : ChangeSpec := { name := "fnExactReadEntry", fn := fun _ => fun
  | [d] => { results := [.lit (.bool true)], args := [d] }
  | _ => none }
def fnExactReadEntryRow : OpenClaim := { program := "ytmgfkpfacdlfbaa", sum := "fac735ef554c32056e359918d47dce316c393b9675ccb0ea3b972bc946276a94", func := "loop.example/g00548/laws.FnExactReadEntry", spec := "fnExactReadEntry", unfollowed := true, recurses := true, apart := false }
def FnExactReadEntrySaid : Prop := fnExactReadEntryRow.holds Try.pinned (OpenSpec.ofChange fnExactReadEntrySpec)

/-- ITS FALSE NEIGHBOUR: 'it returns false'. Refute it at one input. -/
def fnExactReadEntryWrong : ChangeSpec := { name := "fnExactReadEntry", fn := fun _ => fun
  | [d] => { results := [.lit (.bool false)], args := [d] }
  | _ => none }
def FnExactReadEntryWrongFalsely : Prop := fnExactReadEntryRow.holds Try.pinned (OpenSpec.ofChange fnExactReadEntryWrong)

/-- 'laws.FnExactReadState': WHATEVER THE INPUT: true; the input reads as it did. -/
def fnExactReadStateSpec : ChangeSpec := { name := "fnExactReadState", fn := fun _ => fun
  | [d] => { results := [.lit (.bool true)], args := [d] }
  | _ => none }
def fnExactReadStateRow : OpenClaim := { program := "ytmgfkpfacdlfbaa", sum := "fac735ef554c32056e359918d47dce316c393b9675ccb0ea3b972bc946276a94", func := "loop.example/g00548/laws.FnExactReadState", spec := "fnExactReadState", unfollowed := true, recurses := true, apart := false }
def FnExactReadStateSaid : Prop := fnExactReadStateRow.holds Try.pinned (OpenSpec.ofChange fnExactReadStateSpec)

/-- ITS FALSE NEIGHBOUR: 'it returns false'. Refute it at one input. -/
def fnExactReadStateWrong : ChangeSpec := { name := "fnExactReadState", fn := fun _ => fun
  | [d] => { results := [.lit (.bool false)], args := [d] }
  | _ => none }
def FnExactReadStateWrongFalsely : Prop := fnExactReadStateRow.holds Try.pinned (OpenSpec.ofChange fnExactReadStateWrong)

/-- 'laws.FnHex': WHATEVER THE INPUT: true; the input reads as it did. -/
def fnHexSpec : ChangeSpec := { name := "fnHex", fn := fun _ => fun
  | [d] => { results := [.lit (.bool true)], args := [d] }
  | _ => none }
def fnHexRow : OpenClaim := { program := "ytmgfkpfacdlfbaa", sum := "fac735ef554c32056e359918d47dce316c393b9675ccb0ea3b972bc946276a94", func := "loop.example/g00548/laws.FnHex", spec := "fnHex", inPlace := ["internal/bytealg.IndexByteString"], unfollowed := true, recurses := true, apart := false }
def FnHexSaid : Prop := fnHexRow.holds Try.pinned (OpenSpec.ofChange fnHexSpec)

/-- ITS FALSE NEIGHBOUR: 'it returns false'. Refute it at one input. -/
def fnHexWrong : ChangeSpec := { name := "fnHex", fn := fun _ => fun
  | [d] => { results := [.lit (.bool false)], args := [d] }
  | _ => none }
def FnHexWrongFalsely : Prop := fnHexRow.holds Try.pinned (OpenSpec.ofChange fnHexWrong)

/- THE SECOND FORM. 'bulk': how many values and letters a reading holds, each counted each time it is reached (what is shared counts as often as it is met; a slice's spare places count too). A statement '..UptoSaid' is the law's where the arguments, and the package variables that the reading takes, are together of bulk at most 1048576: NARROWER than '..Said'. Prove '..Said' where nothing that the law and all that it calls make is longer than what came in: it says more and counts as full. Else prove '..UptoSaid'. A law counts once. -/
mutual
def uptoBulk {H : Type} : DataW H → Nat
  | .lit (.string bytes) => bytes.length + 1
  | .lit _ => 1
  | .nil => 1
  | .ptr d => uptoBulk d + 1
  | .slice elems spare => uptoBulkAll elems + uptoBulkAll spare + 1
  | .agg parts => uptoBulkAll parts + 1
  | .iface _ d => uptoBulk d + 1
  | .map entries => uptoBulkEntries entries + 1
  | .held _ => 1
def uptoBulkAll {H : Type} : List (DataW H) → Nat
  | [] => 0
  | d :: r => uptoBulk d + uptoBulkAll r
def uptoBulkEntries {H : Type} : List (Lit × DataW H) → Nat
  | [] => 0
  | x :: r => uptoBulkEntry x + uptoBulkEntries r
def uptoBulkEntry {H : Type} : Lit × DataW H → Nat
  | (.string bytes, d) => bytes.length + uptoBulk d + 1
  | (_, d) => uptoBulk d + 1
 end
def uptoSmall : (H : Type) → List (DataW H) → Bool := fun _ ds => decide (uptoBulkAll ds ≤ 1048576)
def OpenSpec.upto (s : _root_.Go.ChangeSpec) : _root_.Go.OpenSpec := { _root_.Go.OpenSpec.ofChange s with cond := some uptoSmall }

/-- 'laws.FnExactBucketText', WHERE WHAT IT READS IS OF BULK AT MOST 1048576: true; the input reads as it did. -/
def fnExactBucketTextUptoRow : OpenClaim := { program := "ytmgfkpfacdlfbaa", sum := "fac735ef554c32056e359918d47dce316c393b9675ccb0ea3b972bc946276a94", func := "loop.example/g00548/laws.FnExactBucketText", spec := "fnExactBucketText", inPlace := ["internal/abi.NoEscape"], unfollowed := true, recurses := true, apart := false, narrowed := true }
def FnExactBucketTextUptoSaid : Prop := fnExactBucketTextUptoRow.holds Try.pinned (OpenSpec.upto fnExactBucketTextSpec)

/-- 'laws.FnExactEntryText', WHERE WHAT IT READS IS OF BULK AT MOST 1048576: true; the input reads as it did. -/
def fnExactEntryTextUptoRow : OpenClaim := { program := "ytmgfkpfacdlfbaa", sum := "fac735ef554c32056e359918d47dce316c393b9675ccb0ea3b972bc946276a94", func := "loop.example/g00548/laws.FnExactEntryText", spec := "fnExactEntryText", inPlace := ["internal/abi.NoEscape"], unfollowed := true, recurses := true, apart := false, narrowed := true }
def FnExactEntryTextUptoSaid : Prop := fnExactEntryTextUptoRow.holds Try.pinned (OpenSpec.upto fnExactEntryTextSpec)

/-- 'laws.FnExactStateText', WHERE WHAT IT READS IS OF BULK AT MOST 1048576: true; the input reads as it did. -/
def fnExactStateTextUptoRow : OpenClaim := { program := "ytmgfkpfacdlfbaa", sum := "fac735ef554c32056e359918d47dce316c393b9675ccb0ea3b972bc946276a94", func := "loop.example/g00548/laws.FnExactStateText", spec := "fnExactStateText", inPlace := ["internal/abi.NoEscape"], unfollowed := true, recurses := true, apart := false, narrowed := true }
def FnExactStateTextUptoSaid : Prop := fnExactStateTextUptoRow.holds Try.pinned (OpenSpec.upto fnExactStateTextSpec)

/-- 'laws.FnExactEncOK', WHERE WHAT IT READS IS OF BULK AT MOST 1048576: true; the input reads as it did. -/
def fnExactEncOKUptoRow : OpenClaim := { program := "ytmgfkpfacdlfbaa", sum := "fac735ef554c32056e359918d47dce316c393b9675ccb0ea3b972bc946276a94", func := "loop.example/g00548/laws.FnExactEncOK", spec := "fnExactEncOK", unfollowed := true, recurses := true, apart := false, narrowed := true }
def FnExactEncOKUptoSaid : Prop := fnExactEncOKUptoRow.holds Try.pinned (OpenSpec.upto fnExactEncOKSpec)

/-- 'laws.FnExactReadBucket', WHERE WHAT IT READS IS OF BULK AT MOST 1048576: true; the input reads as it did. -/
def fnExactReadBucketUptoRow : OpenClaim := { program := "ytmgfkpfacdlfbaa", sum := "fac735ef554c32056e359918d47dce316c393b9675ccb0ea3b972bc946276a94", func := "loop.example/g00548/laws.FnExactReadBucket", spec := "fnExactReadBucket", unfollowed := true, recurses := true, apart := false, narrowed := true }
def FnExactReadBucketUptoSaid : Prop := fnExactReadBucketUptoRow.holds Try.pinned (OpenSpec.upto fnExactReadBucketSpec)

/-- 'laws.FnExactReadEntry', WHERE WHAT IT READS IS OF BULK AT MOST 1048576: true; the input reads as it did. -/
def fnExactReadEntryUptoRow : OpenClaim := { program := "ytmgfkpfacdlfbaa", sum := "fac735ef554c32056e359918d47dce316c393b9675ccb0ea3b972bc946276a94", func := "loop.example/g00548/laws.FnExactReadEntry", spec := "fnExactReadEntry", unfollowed := true, recurses := true, apart := false, narrowed := true }
def FnExactReadEntryUptoSaid : Prop := fnExactReadEntryUptoRow.holds Try.pinned (OpenSpec.upto fnExactReadEntrySpec)

/-- 'laws.FnExactReadState', WHERE WHAT IT READS IS OF BULK AT MOST 1048576: true; the input reads as it did. -/
def fnExactReadStateUptoRow : OpenClaim := { program := "ytmgfkpfacdlfbaa", sum := "fac735ef554c32056e359918d47dce316c393b9675ccb0ea3b972bc946276a94", func := "loop.example/g00548/laws.FnExactReadState", spec := "fnExactReadState", unfollowed := true, recurses := true, apart := false, narrowed := true }
def FnExactReadStateUptoSaid : Prop := fnExactReadStateUptoRow.holds Try.pinned (OpenSpec.upto fnExactReadStateSpec)

/-- 'laws.FnHex', WHERE WHAT IT READS IS OF BULK AT MOST 1048576: true; the input reads as it did. -/
def fnHexUptoRow : OpenClaim := { program := "ytmgfkpfacdlfbaa", sum := "fac735ef554c32056e359918d47dce316c393b9675ccb0ea3b972bc946276a94", func := "loop.example/g00548/laws.FnHex", spec := "fnHex", inPlace := ["internal/bytealg.IndexByteString"], unfollowed := true, recurses := true, apart := false, narrowed := true }
def FnHexUptoSaid : Prop := fnHexUptoRow.holds Try.pinned (OpenSpec.upto fnHexSpec)

end Rows
end Go.Proofs.Ytmgfkpfacdlfbaa
