/-
  No cell of these rows narrows 'for every input' (looked for: loops, veiled, ifaces, maps, wideKeys, modest, calm, conditions, laid).
  DERIVED. THE GIVEN ROWS OF THIS SEAT. 6 by the template 'for every input the law returns true; each argument reads behind the call as it read before'; 0 by the template 'total and deterministic' (their statements: YtjlhmcieholdiaaTotals.lean).
  GIVEN WITH THE SEED: the statements are not yours to turn. If you find one false, say at which input.
  Laid BY PROGRAM, IN A SANDBOX (cutbox-rows.mjs): the forced cells as the released guide's own fill.sh prints them over the translation 0cf76a04201e573a… (all of the seat's roots in one cut). By AI agents, Wed Nov 11 2026. No macro, syntax, notation, axiom, sorry.
-/
import Derived.Test.YtjlhmcieholdiaaChecked
import GoSem.Claim
import GoSem.ClaimJoined
import GoSem.ClaimMapViews
import Derived.JoinedTies
import Derived.KernelRfl
namespace Go.Proofs.Ytjlhmcieholdiaa
/- THE CELL 'sum', in the pinned program and in every row, IS THE sha256 OF THE DUMP (.gsa) THAT YtjlhmcieholdiaaProg.lean LOADS. Nothing in Lean hashes anything: it is a label: what it is worth is what the hold of that sum in a sandbox is worth. -/
noncomputable def Try.pinned : Pinned := { name := "ytjlhmcieholdiaa", sum := "0cf76a04201e573a7bfd0a5c23b89a974da225421ab290cd0c08809294696d4f", checked := Try.checked }
namespace Rows
def none {H : Type} : Left H := { results := [], args := [] }

/-- 'laws.FnExactAccess': WHATEVER THE INPUT: true; the input reads as it did. -/
def fnExactAccessSpec : ChangeSpec := { name := "fnExactAccess", fn := fun _ => fun
  | [d1, d2, d3, d4, d5] => { results := [.lit (.bool true)], args := [d1, d2, d3, d4, d5] }
  | _ => none }
def fnExactAccessRow : OpenClaim := { program := "ytjlhmcieholdiaa", sum := "0cf76a04201e573a7bfd0a5c23b89a974da225421ab290cd0c08809294696d4f", func := "loop.example/g00548/laws.FnExactAccess", spec := "fnExactAccess", unfollowed := true, recurses := true, apart := false }
def FnExactAccessSaid : Prop := fnExactAccessRow.holds Try.pinned (OpenSpec.ofChange fnExactAccessSpec)

/-- ITS FALSE NEIGHBOUR: 'it returns false'. Refute it at one input. -/
def fnExactAccessWrong : ChangeSpec := { name := "fnExactAccess", fn := fun _ => fun
  | [d1, d2, d3, d4, d5] => { results := [.lit (.bool false)], args := [d1, d2, d3, d4, d5] }
  | _ => none }
def FnExactAccessWrongFalsely : Prop := fnExactAccessRow.holds Try.pinned (OpenSpec.ofChange fnExactAccessWrong)

/-- 'laws.FnAccess': WHATEVER THE INPUT: true; the input reads as it did. -/
def fnAccessSpec : ChangeSpec := { name := "fnAccess", fn := fun _ => fun
  | [d1, d2] => { results := [.lit (.bool true)], args := [d1, d2] }
  | _ => none }
def fnAccessRow : OpenClaim := { program := "ytjlhmcieholdiaa", sum := "0cf76a04201e573a7bfd0a5c23b89a974da225421ab290cd0c08809294696d4f", func := "loop.example/g00548/laws.FnAccess", spec := "fnAccess", unfollowed := true, recurses := true, apart := false }
def FnAccessSaid : Prop := fnAccessRow.holds Try.pinned (OpenSpec.ofChange fnAccessSpec)

/-- ITS FALSE NEIGHBOUR: 'it returns false'. Refute it at one input. -/
def fnAccessWrong : ChangeSpec := { name := "fnAccess", fn := fun _ => fun
  | [d1, d2] => { results := [.lit (.bool false)], args := [d1, d2] }
  | _ => none }
def FnAccessWrongFalsely : Prop := fnAccessRow.holds Try.pinned (OpenSpec.ofChange fnAccessWrong)

/-- 'laws.FnExactMapOf': WHATEVER THE INPUT: true; the input reads as it did. -/
def fnExactMapOfSpec : ChangeSpec := { name := "fnExactMapOf", fn := fun _ => fun
  | [d] => { results := [.lit (.bool true)], args := [d] }
  | _ => none }
def fnExactMapOfRow : OpenClaim := { program := "ytjlhmcieholdiaa", sum := "0cf76a04201e573a7bfd0a5c23b89a974da225421ab290cd0c08809294696d4f", func := "loop.example/g00548/laws.FnExactMapOf", spec := "fnExactMapOf", inPlace := ["slices.overlaps[loop.example/g00548/impl.Entry]"], unfollowed := true, recurses := true, apart := false }
def FnExactMapOfSaid : Prop := fnExactMapOfRow.holds Try.pinned (OpenSpec.ofChange fnExactMapOfSpec)

/-- ITS FALSE NEIGHBOUR: 'it returns false'. Refute it at one input. -/
def fnExactMapOfWrong : ChangeSpec := { name := "fnExactMapOf", fn := fun _ => fun
  | [d] => { results := [.lit (.bool false)], args := [d] }
  | _ => none }
def FnExactMapOfWrongFalsely : Prop := fnExactMapOfRow.holds Try.pinned (OpenSpec.ofChange fnExactMapOfWrong)

/-- 'laws.FnStream': WHATEVER THE INPUT: true; the input reads as it did. -/
def fnStreamSpec : ChangeSpec := { name := "fnStream", fn := fun _ => fun
  | [d1, d2] => { results := [.lit (.bool true)], args := [d1, d2] }
  | _ => none }
def fnStreamRow : OpenClaim := { program := "ytjlhmcieholdiaa", sum := "0cf76a04201e573a7bfd0a5c23b89a974da225421ab290cd0c08809294696d4f", func := "loop.example/g00548/laws.FnStream", spec := "fnStream", inPlace := ["internal/abi.NoEscape"], unfollowed := true, recurses := true, apart := false }
def FnStreamSaid : Prop := fnStreamRow.holds Try.pinned (OpenSpec.ofChange fnStreamSpec)

/-- ITS FALSE NEIGHBOUR: 'it returns false'. Refute it at one input. -/
def fnStreamWrong : ChangeSpec := { name := "fnStream", fn := fun _ => fun
  | [d1, d2] => { results := [.lit (.bool false)], args := [d1, d2] }
  | _ => none }
def FnStreamWrongFalsely : Prop := fnStreamRow.holds Try.pinned (OpenSpec.ofChange fnStreamWrong)

/-- 'laws.FnTag': WHATEVER THE INPUT: true; the input reads as it did. -/
def fnTagSpec : ChangeSpec := { name := "fnTag", fn := fun _ => fun
  | [d1, d2] => { results := [.lit (.bool true)], args := [d1, d2] }
  | _ => none }
def fnTagRow : OpenClaim := { program := "ytjlhmcieholdiaa", sum := "0cf76a04201e573a7bfd0a5c23b89a974da225421ab290cd0c08809294696d4f", func := "loop.example/g00548/laws.FnTag", spec := "fnTag", unfollowed := true, recurses := true, apart := false }
def FnTagSaid : Prop := fnTagRow.holds Try.pinned (OpenSpec.ofChange fnTagSpec)

/-- ITS FALSE NEIGHBOUR: 'it returns false'. Refute it at one input. -/
def fnTagWrong : ChangeSpec := { name := "fnTag", fn := fun _ => fun
  | [d1, d2] => { results := [.lit (.bool false)], args := [d1, d2] }
  | _ => none }
def FnTagWrongFalsely : Prop := fnTagRow.holds Try.pinned (OpenSpec.ofChange fnTagWrong)

/-- 'laws.FnHash': WHATEVER THE INPUT: true; the input reads as it did. -/
def fnHashSpec : ChangeSpec := { name := "fnHash", fn := fun _ => fun
  | [d1, d2] => { results := [.lit (.bool true)], args := [d1, d2] }
  | _ => none }
def fnHashRow : OpenClaim := { program := "ytjlhmcieholdiaa", sum := "0cf76a04201e573a7bfd0a5c23b89a974da225421ab290cd0c08809294696d4f", func := "loop.example/g00548/laws.FnHash", spec := "fnHash", inPlace := ["internal/abi.NoEscape", "internal/bytealg.MakeNoZero"], unfollowed := true, recurses := true, apart := false }
def FnHashSaid : Prop := fnHashRow.holds Try.pinned (OpenSpec.ofChange fnHashSpec)

/-- ITS FALSE NEIGHBOUR: 'it returns false'. Refute it at one input. -/
def fnHashWrong : ChangeSpec := { name := "fnHash", fn := fun _ => fun
  | [d1, d2] => { results := [.lit (.bool false)], args := [d1, d2] }
  | _ => none }
def FnHashWrongFalsely : Prop := fnHashRow.holds Try.pinned (OpenSpec.ofChange fnHashWrong)

/- THE SECOND FORM. 'bulk': how many values and letters a reading holds, each counted each time it is reached (what is shared counts as often as it is met; a slice's spare places count too). A statement '..UptoSaid' is the law's where the arguments, and the package variables that the reading takes, are together of bulk at most 1048576: NARROWER than '..Said'. Prove '..Said' where nothing that the law and all that it calls make is longer than what came in: it says more and counts as full. Else prove '..UptoSaid'. A law counts once. -/
mutual
def uptoBulk {H : Type} : DataW H → Nat
  | .lit (.string bytes) => bytes.length + 1
  | .lit _ => 1
  | .nil => 1
  | .ptr d => uptoBulk d + 1
  | .slice elems spare => uptoBulkAll elems + uptoBulkAll spare + 1
  | .agg parts => uptoBulkAll parts + 1
  | .iface _ d => uptoBulk d + 1
  | .map entries => uptoBulkEntries entries + 1
  | .held _ => 1
def uptoBulkAll {H : Type} : List (DataW H) → Nat
  | [] => 0
  | d :: r => uptoBulk d + uptoBulkAll r
def uptoBulkEntries {H : Type} : List (Lit × DataW H) → Nat
  | [] => 0
  | x :: r => uptoBulkEntry x + uptoBulkEntries r
def uptoBulkEntry {H : Type} : Lit × DataW H → Nat
  | (.string bytes, d) => bytes.length + uptoBulk d + 1
  | (_, d) => uptoBulk d + 1
 end
def uptoSmall : (H : Type) → List (DataW H) → Bool := fun _ ds => decide (uptoBulkAll ds ≤ 1048576)
def OpenSpec.upto (s : _root_.Go.ChangeSpec) : _root_.Go.OpenSpec := { _root_.Go.OpenSpec.ofChange s with cond := some uptoSmall }

/-- 'laws.FnExactAccess', WHERE WHAT IT READS IS OF BULK AT MOST 1048576: true; the input reads as it did. -/
def fnExactAccessUptoRow : OpenClaim := { program := "ytjlhmcieholdiaa", sum := "0cf76a04201e573a7bfd0a5c23b89a974da225421ab290cd0c08809294696d4f", func := "loop.example/g00548/laws.FnExactAccess", spec := "fnExactAccess", unfollowed := true, recurses := true, apart := false, narrowed := true }
def FnExactAccessUptoSaid : Prop := fnExactAccessUptoRow.holds Try.pinned (OpenSpec.upto fnExactAccessSpec)

/-- 'laws.FnAccess', WHERE WHAT IT READS IS OF BULK AT MOST 1048576: true; the input reads as it did. -/
def fnAccessUptoRow : OpenClaim := { program := "ytjlhmcieholdiaa", sum := "0cf76a04201e573a7bfd0a5c23b89a974da225421ab290cd0c08809294696d4f", func := "loop.example/g00548/laws.FnAccess", spec := "fnAccess", unfollowed := true, recurses := true, apart := false, narrowed := true }
def FnAccessUptoSaid : Prop := fnAccessUptoRow.holds Try.pinned (OpenSpec.upto fnAccessSpec)

/-- 'laws.FnExactMapOf', WHERE WHAT IT READS IS OF BULK AT MOST 1048576: true; the input reads as it did. -/
def fnExactMapOfUptoRow : OpenClaim := { program := "ytjlhmcieholdiaa", sum := "0cf76a04201e573a7bfd0a5c23b89a974da225421ab290cd0c08809294696d4f", func := "loop.example/g00548/laws.FnExactMapOf", spec := "fnExactMapOf", inPlace := ["slices.overlaps[loop.example/g00548/impl.Entry]"], unfollowed := true, recurses := true, apart := false, narrowed := true }
def FnExactMapOfUptoSaid : Prop := fnExactMapOfUptoRow.holds Try.pinned (OpenSpec.upto fnExactMapOfSpec)

/-- 'laws.FnStream', WHERE WHAT IT READS IS OF BULK AT MOST 1048576: true; the input reads as it did. -/
def fnStreamUptoRow : OpenClaim := { program := "ytjlhmcieholdiaa", sum := "0cf76a04201e573a7bfd0a5c23b89a974da225421ab290cd0c08809294696d4f", func := "loop.example/g00548/laws.FnStream", spec := "fnStream", inPlace := ["internal/abi.NoEscape"], unfollowed := true, recurses := true, apart := false, narrowed := true }
def FnStreamUptoSaid : Prop := fnStreamUptoRow.holds Try.pinned (OpenSpec.upto fnStreamSpec)

/-- 'laws.FnTag', WHERE WHAT IT READS IS OF BULK AT MOST 1048576: true; the input reads as it did. -/
def fnTagUptoRow : OpenClaim := { program := "ytjlhmcieholdiaa", sum := "0cf76a04201e573a7bfd0a5c23b89a974da225421ab290cd0c08809294696d4f", func := "loop.example/g00548/laws.FnTag", spec := "fnTag", unfollowed := true, recurses := true, apart := false, narrowed := true }
def FnTagUptoSaid : Prop := fnTagUptoRow.holds Try.pinned (OpenSpec.upto fnTagSpec)

/-- 'laws.FnHash', WHERE WHAT IT READS IS OF BULK AT MOST 1048576: true; the input reads as it did. -/
def fnHashUptoRow : OpenClaim := { program := "ytjlhmcieholdiaa", sum := "0cf76a04201e573a7bfd0a5c23b89a974da225421ab290cd0c08809294696d4f", func := "loop.example/g00548/laws.FnHash", spec := "fnHash", inPlace := ["internal/abi.NoEscape", "internal/bytealg.MakeNoZero"], unfollowed := true, recurses := true, apart := false, narrowed := true }
def FnHashUptoSaid : Prop := fnHashUptoRow.holds Try.pinned (OpenSpec.upto fnHashSpec)

end Rows
end Go.Proofs.Ytjlhmcieholdiaa
