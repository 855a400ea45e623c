/-
  No cell of these rows narrows 'for every input' (looked for: loops, veiled, ifaces, maps, wideKeys, modest, calm, conditions, laid).
  DERIVED. THE GIVEN ROWS OF THIS SEAT. 8 by the template 'for every input the law returns true; each argument reads behind the call as it read before'; 0 by the template 'total and deterministic' (their statements: YtlbbkehdfgjneaaTotals.lean).
  GIVEN WITH THE SEED: the statements are not yours to turn. If you find one false, say at which input.
  Laid BY PROGRAM, IN A SANDBOX (cutbox-rows.mjs): the forced cells as the released guide's own fill.sh prints them over the translation 6eed4d22f9c453cf… (all of the seat's roots in one cut). By AI agents, Wed Nov 11 2026. No macro, syntax, notation, axiom, sorry.
-/
import Derived.Test.YtlbbkehdfgjneaaChecked
import GoSem.Claim
import GoSem.ClaimJoined
import GoSem.ClaimMapViews
import Derived.JoinedTies
import Derived.KernelRfl
namespace Go.Proofs.Ytlbbkehdfgjneaa
/- THE CELL 'sum', in the pinned program and in every row, IS THE sha256 OF THE DUMP (.gsa) THAT YtlbbkehdfgjneaaProg.lean LOADS. Nothing in Lean hashes anything: it is a label: what it is worth is what the hold of that sum in a sandbox is worth. -/
noncomputable def Try.pinned : Pinned := { name := "ytlbbkehdfgjneaa", sum := "6eed4d22f9c453cfc22542a40cad3572b6331cc9026cfe9bd8e930c01fabb7b5", checked := Try.checked }
namespace Rows
def none {H : Type} : Left H := { results := [], args := [] }

/-- 'laws.FnExactMapDo': WHATEVER THE INPUT: true; the input reads as it did. -/
def fnExactMapDoSpec : ChangeSpec := { name := "fnExactMapDo", fn := fun _ => fun
  | [d1, d2] => { results := [.lit (.bool true)], args := [d1, d2] }
  | _ => none }
def fnExactMapDoRow : OpenClaim := { program := "ytlbbkehdfgjneaa", sum := "6eed4d22f9c453cfc22542a40cad3572b6331cc9026cfe9bd8e930c01fabb7b5", func := "loop.example/g00548/laws.FnExactMapDo", spec := "fnExactMapDo", inPlace := ["slices.overlaps[loop.example/g00548/impl.Entry]"], unfollowed := true, recurses := true, apart := false }
def FnExactMapDoSaid : Prop := fnExactMapDoRow.holds Try.pinned (OpenSpec.ofChange fnExactMapDoSpec)

/-- ITS FALSE NEIGHBOUR: 'it returns false'. Refute it at one input. -/
def fnExactMapDoWrong : ChangeSpec := { name := "fnExactMapDo", fn := fun _ => fun
  | [d1, d2] => { results := [.lit (.bool false)], args := [d1, d2] }
  | _ => none }
def FnExactMapDoWrongFalsely : Prop := fnExactMapDoRow.holds Try.pinned (OpenSpec.ofChange fnExactMapDoWrong)

/-- 'laws.FnExactMapTxn': WHATEVER THE INPUT: true; the input reads as it did. -/
def fnExactMapTxnSpec : ChangeSpec := { name := "fnExactMapTxn", fn := fun _ => fun
  | [d1, d2] => { results := [.lit (.bool true)], args := [d1, d2] }
  | _ => none }
def fnExactMapTxnRow : OpenClaim := { program := "ytlbbkehdfgjneaa", sum := "6eed4d22f9c453cfc22542a40cad3572b6331cc9026cfe9bd8e930c01fabb7b5", func := "loop.example/g00548/laws.FnExactMapTxn", spec := "fnExactMapTxn", inPlace := ["slices.overlaps[loop.example/g00548/impl.Entry]"], unfollowed := true, recurses := true, apart := false }
def FnExactMapTxnSaid : Prop := fnExactMapTxnRow.holds Try.pinned (OpenSpec.ofChange fnExactMapTxnSpec)

/-- ITS FALSE NEIGHBOUR: 'it returns false'. Refute it at one input. -/
def fnExactMapTxnWrong : ChangeSpec := { name := "fnExactMapTxn", fn := fun _ => fun
  | [d1, d2] => { results := [.lit (.bool false)], args := [d1, d2] }
  | _ => none }
def FnExactMapTxnWrongFalsely : Prop := fnExactMapTxnRow.holds Try.pinned (OpenSpec.ofChange fnExactMapTxnWrong)

/-- 'laws.FnMap': WHATEVER THE INPUT: true; the input reads as it did. -/
def fnMapSpec : ChangeSpec := { name := "fnMap", fn := fun _ => fun
  | [d1, d2] => { results := [.lit (.bool true)], args := [d1, d2] }
  | _ => none }
def fnMapRow : OpenClaim := { program := "ytlbbkehdfgjneaa", sum := "6eed4d22f9c453cfc22542a40cad3572b6331cc9026cfe9bd8e930c01fabb7b5", func := "loop.example/g00548/laws.FnMap", spec := "fnMap", inPlace := ["slices.overlaps[loop.example/g00548/impl.Entry]"], unfollowed := true, recurses := true, apart := false }
def FnMapSaid : Prop := fnMapRow.holds Try.pinned (OpenSpec.ofChange fnMapSpec)

/-- ITS FALSE NEIGHBOUR: 'it returns false'. Refute it at one input. -/
def fnMapWrong : ChangeSpec := { name := "fnMap", fn := fun _ => fun
  | [d1, d2] => { results := [.lit (.bool false)], args := [d1, d2] }
  | _ => none }
def FnMapWrongFalsely : Prop := fnMapRow.holds Try.pinned (OpenSpec.ofChange fnMapWrong)

/-- 'laws.FnScan': WHATEVER THE INPUT: true; the input reads as it did. -/
def fnScanSpec : ChangeSpec := { name := "fnScan", fn := fun _ => fun
  | [d1, d2] => { results := [.lit (.bool true)], args := [d1, d2] }
  | _ => none }
def fnScanRow : OpenClaim := { program := "ytlbbkehdfgjneaa", sum := "6eed4d22f9c453cfc22542a40cad3572b6331cc9026cfe9bd8e930c01fabb7b5", func := "loop.example/g00548/laws.FnScan", spec := "fnScan", inPlace := ["slices.overlaps[loop.example/g00548/impl.Entry]"], unfollowed := true, recurses := true, apart := false }
def FnScanSaid : Prop := fnScanRow.holds Try.pinned (OpenSpec.ofChange fnScanSpec)

/-- ITS FALSE NEIGHBOUR: 'it returns false'. Refute it at one input. -/
def fnScanWrong : ChangeSpec := { name := "fnScan", fn := fun _ => fun
  | [d1, d2] => { results := [.lit (.bool false)], args := [d1, d2] }
  | _ => none }
def FnScanWrongFalsely : Prop := fnScanRow.holds Try.pinned (OpenSpec.ofChange fnScanWrong)

/-- 'laws.FnDevice': WHATEVER THE INPUT: true; the input reads as it did. -/
def fnDeviceSpec : ChangeSpec := { name := "fnDevice", fn := fun _ => fun
  | [d1, d2] => { results := [.lit (.bool true)], args := [d1, d2] }
  | _ => none }
def fnDeviceRow : OpenClaim := { program := "ytlbbkehdfgjneaa", sum := "6eed4d22f9c453cfc22542a40cad3572b6331cc9026cfe9bd8e930c01fabb7b5", func := "loop.example/g00548/laws.FnDevice", spec := "fnDevice", unfollowed := true, recurses := true, apart := false }
def FnDeviceSaid : Prop := fnDeviceRow.holds Try.pinned (OpenSpec.ofChange fnDeviceSpec)

/-- ITS FALSE NEIGHBOUR: 'it returns false'. Refute it at one input. -/
def fnDeviceWrong : ChangeSpec := { name := "fnDevice", fn := fun _ => fun
  | [d1, d2] => { results := [.lit (.bool false)], args := [d1, d2] }
  | _ => none }
def FnDeviceWrongFalsely : Prop := fnDeviceRow.holds Try.pinned (OpenSpec.ofChange fnDeviceWrong)

/-- 'laws.FnFlip': WHATEVER THE INPUT: true; the input reads as it did. -/
def fnFlipSpec : ChangeSpec := { name := "fnFlip", fn := fun _ => fun
  | [d1, d2] => { results := [.lit (.bool true)], args := [d1, d2] }
  | _ => none }
def fnFlipRow : OpenClaim := { program := "ytlbbkehdfgjneaa", sum := "6eed4d22f9c453cfc22542a40cad3572b6331cc9026cfe9bd8e930c01fabb7b5", func := "loop.example/g00548/laws.FnFlip", spec := "fnFlip", unfollowed := true, recurses := true, apart := false }
def FnFlipSaid : Prop := fnFlipRow.holds Try.pinned (OpenSpec.ofChange fnFlipSpec)

/-- ITS FALSE NEIGHBOUR: 'it returns false'. Refute it at one input. -/
def fnFlipWrong : ChangeSpec := { name := "fnFlip", fn := fun _ => fun
  | [d1, d2] => { results := [.lit (.bool false)], args := [d1, d2] }
  | _ => none }
def FnFlipWrongFalsely : Prop := fnFlipRow.holds Try.pinned (OpenSpec.ofChange fnFlipWrong)

/-- 'laws.FnPath': WHATEVER THE INPUT: true; the input reads as it did. -/
def fnPathSpec : ChangeSpec := { name := "fnPath", fn := fun _ => fun
  | [d] => { results := [.lit (.bool true)], args := [d] }
  | _ => none }
def fnPathRow : OpenClaim := { program := "ytlbbkehdfgjneaa", sum := "6eed4d22f9c453cfc22542a40cad3572b6331cc9026cfe9bd8e930c01fabb7b5", func := "loop.example/g00548/laws.FnPath", spec := "fnPath", unfollowed := true, recurses := true, apart := false }
def FnPathSaid : Prop := fnPathRow.holds Try.pinned (OpenSpec.ofChange fnPathSpec)

/-- ITS FALSE NEIGHBOUR: 'it returns false'. Refute it at one input. -/
def fnPathWrong : ChangeSpec := { name := "fnPath", fn := fun _ => fun
  | [d] => { results := [.lit (.bool false)], args := [d] }
  | _ => none }
def FnPathWrongFalsely : Prop := fnPathRow.holds Try.pinned (OpenSpec.ofChange fnPathWrong)

/-- 'laws.FnExactNewEnc': WHATEVER THE INPUT: true; the input reads as it did. -/
def fnExactNewEncSpec : ChangeSpec := { name := "fnExactNewEnc", fn := fun _ => fun
  | [d] => { results := [.lit (.bool true)], args := [d] }
  | _ => none }
def fnExactNewEncRow : OpenClaim := { program := "ytlbbkehdfgjneaa", sum := "6eed4d22f9c453cfc22542a40cad3572b6331cc9026cfe9bd8e930c01fabb7b5", func := "loop.example/g00548/laws.FnExactNewEnc", spec := "fnExactNewEnc", unfollowed := true, recurses := true, apart := false }
def FnExactNewEncSaid : Prop := fnExactNewEncRow.holds Try.pinned (OpenSpec.ofChange fnExactNewEncSpec)

/-- ITS FALSE NEIGHBOUR: 'it returns false'. Refute it at one input. -/
def fnExactNewEncWrong : ChangeSpec := { name := "fnExactNewEnc", fn := fun _ => fun
  | [d] => { results := [.lit (.bool false)], args := [d] }
  | _ => none }
def FnExactNewEncWrongFalsely : Prop := fnExactNewEncRow.holds Try.pinned (OpenSpec.ofChange fnExactNewEncWrong)

/- THE SECOND FORM. 'bulk': how many values and letters a reading holds, each counted each time it is reached (what is shared counts as often as it is met; a slice's spare places count too). A statement '..UptoSaid' is the law's where the arguments, and the package variables that the reading takes, are together of bulk at most 1048576: NARROWER than '..Said'. Prove '..Said' where nothing that the law and all that it calls make is longer than what came in: it says more and counts as full. Else prove '..UptoSaid'. A law counts once. -/
mutual
def uptoBulk {H : Type} : DataW H → Nat
  | .lit (.string bytes) => bytes.length + 1
  | .lit _ => 1
  | .nil => 1
  | .ptr d => uptoBulk d + 1
  | .slice elems spare => uptoBulkAll elems + uptoBulkAll spare + 1
  | .agg parts => uptoBulkAll parts + 1
  | .iface _ d => uptoBulk d + 1
  | .map entries => uptoBulkEntries entries + 1
  | .held _ => 1
def uptoBulkAll {H : Type} : List (DataW H) → Nat
  | [] => 0
  | d :: r => uptoBulk d + uptoBulkAll r
def uptoBulkEntries {H : Type} : List (Lit × DataW H) → Nat
  | [] => 0
  | x :: r => uptoBulkEntry x + uptoBulkEntries r
def uptoBulkEntry {H : Type} : Lit × DataW H → Nat
  | (.string bytes, d) => bytes.length + uptoBulk d + 1
  | (_, d) => uptoBulk d + 1
 end
def uptoSmall : (H : Type) → List (DataW H) → Bool := fun _ ds => decide (uptoBulkAll ds ≤ 1048576)
def OpenSpec.upto (s : _root_.Go.ChangeSpec) : _root_.Go.OpenSpec := { _root_.Go.OpenSpec.ofChange s with cond := some uptoSmall }

/-- 'laws.FnExactMapDo', WHERE WHAT IT READS IS OF BULK AT MOST 1048576: true; the input reads as it did. -/
def fnExactMapDoUptoRow : OpenClaim := { program := "ytlbbkehdfgjneaa", sum := "6eed4d22f9c453cfc22542a40cad3572b6331cc9026cfe9bd8e930c01fabb7b5", func := "loop.example/g00548/laws.FnExactMapDo", spec := "fnExactMapDo", inPlace := ["slices.overlaps[loop.example/g00548/impl.Entry]"], unfollowed := true, recurses := true, apart := false, narrowed := true }
def FnExactMapDoUptoSaid : Prop := fnExactMapDoUptoRow.holds Try.pinned (OpenSpec.upto fnExactMapDoSpec)

/-- 'laws.FnExactMapTxn', WHERE WHAT IT READS IS OF BULK AT MOST 1048576: true; the input reads as it did. -/
def fnExactMapTxnUptoRow : OpenClaim := { program := "ytlbbkehdfgjneaa", sum := "6eed4d22f9c453cfc22542a40cad3572b6331cc9026cfe9bd8e930c01fabb7b5", func := "loop.example/g00548/laws.FnExactMapTxn", spec := "fnExactMapTxn", inPlace := ["slices.overlaps[loop.example/g00548/impl.Entry]"], unfollowed := true, recurses := true, apart := false, narrowed := true }
def FnExactMapTxnUptoSaid : Prop := fnExactMapTxnUptoRow.holds Try.pinned (OpenSpec.upto fnExactMapTxnSpec)

/-- 'laws.FnMap', WHERE WHAT IT READS IS OF BULK AT MOST 1048576: true; the input reads as it did. -/
def fnMapUptoRow : OpenClaim := { program := "ytlbbkehdfgjneaa", sum := "6eed4d22f9c453cfc22542a40cad3572b6331cc9026cfe9bd8e930c01fabb7b5", func := "loop.example/g00548/laws.FnMap", spec := "fnMap", inPlace := ["slices.overlaps[loop.example/g00548/impl.Entry]"], unfollowed := true, recurses := true, apart := false, narrowed := true }
def FnMapUptoSaid : Prop := fnMapUptoRow.holds Try.pinned (OpenSpec.upto fnMapSpec)

/-- 'laws.FnScan', WHERE WHAT IT READS IS OF BULK AT MOST 1048576: true; the input reads as it did. -/
def fnScanUptoRow : OpenClaim := { program := "ytlbbkehdfgjneaa", sum := "6eed4d22f9c453cfc22542a40cad3572b6331cc9026cfe9bd8e930c01fabb7b5", func := "loop.example/g00548/laws.FnScan", spec := "fnScan", inPlace := ["slices.overlaps[loop.example/g00548/impl.Entry]"], unfollowed := true, recurses := true, apart := false, narrowed := true }
def FnScanUptoSaid : Prop := fnScanUptoRow.holds Try.pinned (OpenSpec.upto fnScanSpec)

/-- 'laws.FnDevice', WHERE WHAT IT READS IS OF BULK AT MOST 1048576: true; the input reads as it did. -/
def fnDeviceUptoRow : OpenClaim := { program := "ytlbbkehdfgjneaa", sum := "6eed4d22f9c453cfc22542a40cad3572b6331cc9026cfe9bd8e930c01fabb7b5", func := "loop.example/g00548/laws.FnDevice", spec := "fnDevice", unfollowed := true, recurses := true, apart := false, narrowed := true }
def FnDeviceUptoSaid : Prop := fnDeviceUptoRow.holds Try.pinned (OpenSpec.upto fnDeviceSpec)

/-- 'laws.FnFlip', WHERE WHAT IT READS IS OF BULK AT MOST 1048576: true; the input reads as it did. -/
def fnFlipUptoRow : OpenClaim := { program := "ytlbbkehdfgjneaa", sum := "6eed4d22f9c453cfc22542a40cad3572b6331cc9026cfe9bd8e930c01fabb7b5", func := "loop.example/g00548/laws.FnFlip", spec := "fnFlip", unfollowed := true, recurses := true, apart := false, narrowed := true }
def FnFlipUptoSaid : Prop := fnFlipUptoRow.holds Try.pinned (OpenSpec.upto fnFlipSpec)

/-- 'laws.FnPath', WHERE WHAT IT READS IS OF BULK AT MOST 1048576: true; the input reads as it did. -/
def fnPathUptoRow : OpenClaim := { program := "ytlbbkehdfgjneaa", sum := "6eed4d22f9c453cfc22542a40cad3572b6331cc9026cfe9bd8e930c01fabb7b5", func := "loop.example/g00548/laws.FnPath", spec := "fnPath", unfollowed := true, recurses := true, apart := false, narrowed := true }
def FnPathUptoSaid : Prop := fnPathUptoRow.holds Try.pinned (OpenSpec.upto fnPathSpec)

/-- 'laws.FnExactNewEnc', WHERE WHAT IT READS IS OF BULK AT MOST 1048576: true; the input reads as it did. -/
def fnExactNewEncUptoRow : OpenClaim := { program := "ytlbbkehdfgjneaa", sum := "6eed4d22f9c453cfc22542a40cad3572b6331cc9026cfe9bd8e930c01fabb7b5", func := "loop.example/g00548/laws.FnExactNewEnc", spec := "fnExactNewEnc", unfollowed := true, recurses := true, apart := false, narrowed := true }
def FnExactNewEncUptoSaid : Prop := fnExactNewEncUptoRow.holds Try.pinned (OpenSpec.upto fnExactNewEncSpec)

end Rows
end Go.Proofs.Ytlbbkehdfgjneaa
