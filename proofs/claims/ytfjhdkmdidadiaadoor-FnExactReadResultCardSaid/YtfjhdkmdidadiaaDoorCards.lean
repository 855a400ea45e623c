/-
  DERIVED. GIVEN WITH THE SEED: THE CARDS: each row of YtfjhdkmdidadiaaDoorRows.lean that lists a variable, with what it lists TIED to the program's text (the seventh form; the later family's looks); each row that meets fmt, with fmt's text TOLD by the authors' own Lean function (tested against real Go, not proved from fmt's source: count such statements apart). THE CARD IS WHAT COUNTS. Prove the row's statement (the work); the ties are given (YtfjhdkmdidadiaaDoorTie.lean); close each card by the builder's one call (the guide's Derived/Test/ToyasCard.lean, 'card_holds'). Laid BY PROGRAM, IN A SANDBOX (cutbox-door.mjs). By AI agents, Wed Nov 11 2026. No macro, syntax, notation, axiom, sorry.
-/
import Derived.Test.YtfjhdkmdidadiaaDoorRows
import GoSem.ClaimSeven
namespace Go.Proofs.YtfjhdkmdidadiaaDoor
namespace Rows

/-- THE TIED CARD OF 'laws.FnExactOpText'. -/
def fnExactOpTextCard : Claim7 := { stood := { row := fnExactOpTextRow, standIns := [], harness := (true, "e1640692824333f570aa23be9f732de3e3ea643257c30adcb3f9bd6cb9f87bf1"), looks := true }, kinds := [], alts := [], laidByText := true, laidKinds := [.data, .data, .data], laidTests := true, laidLooks := .later }
def FnExactOpTextCardSaid : Prop := Claim7.holds Tryd.pinned (.plain (OpenSpec.ofChange fnExactOpTextSpec)) fnExactOpTextCard

/-- THE TIED CARD OF 'laws.FnExactResultText'. -/
def fnExactResultTextCard : Claim7 := { stood := { row := fnExactResultTextRow, standIns := [], harness := (true, "e1640692824333f570aa23be9f732de3e3ea643257c30adcb3f9bd6cb9f87bf1"), looks := true }, kinds := [], alts := [], laidByText := true, laidKinds := [.data, .data, .data], laidTests := true, laidLooks := .later }
def FnExactResultTextCardSaid : Prop := Claim7.holds Tryd.pinned (.plain (OpenSpec.ofChange fnExactResultTextSpec)) fnExactResultTextCard

/-- THE TIED CARD OF 'laws.FnExactBatchText'. -/
def fnExactBatchTextCard : Claim7 := { stood := { row := fnExactBatchTextRow, standIns := [], harness := (true, "e1640692824333f570aa23be9f732de3e3ea643257c30adcb3f9bd6cb9f87bf1"), looks := true }, kinds := [], alts := [], laidByText := true, laidKinds := [.data, .data, .data], laidTests := true, laidLooks := .later }
def FnExactBatchTextCardSaid : Prop := Claim7.holds Tryd.pinned (.plain (OpenSpec.ofChange fnExactBatchTextSpec)) fnExactBatchTextCard

/-- THE TIED CARD OF 'laws.FnExactReadOp'. -/
def fnExactReadOpCard : Claim7 := { stood := { row := fnExactReadOpRow, standIns := [], harness := (true, "e1640692824333f570aa23be9f732de3e3ea643257c30adcb3f9bd6cb9f87bf1"), looks := true }, kinds := [], alts := [], laidByText := true, laidKinds := [.data, .data, .data, .data, .sentinel, .sentinel, .pinned], laidTests := true, laidLooks := .later }
def FnExactReadOpCardSaid : Prop := Claim7.holds Tryd.pinned (.plain (OpenSpec.ofChange fnExactReadOpSpec)) fnExactReadOpCard

/-- THE TIED CARD OF 'laws.FnExactReadResult'. -/
def fnExactReadResultCard : Claim7 := { stood := { row := fnExactReadResultRow, standIns := [], harness := (true, "e1640692824333f570aa23be9f732de3e3ea643257c30adcb3f9bd6cb9f87bf1"), looks := true }, kinds := [], alts := [], laidByText := true, laidKinds := [.data, .data, .data, .data, .sentinel, .sentinel, .pinned], laidTests := true, laidLooks := .later }
def FnExactReadResultCardSaid : Prop := Claim7.holds Tryd.pinned (.plain (OpenSpec.ofChange fnExactReadResultSpec)) fnExactReadResultCard

/-- THE SECOND FORM's CARD OF 'laws.FnExactOpText'. -/
def fnExactOpTextUptoCard : Claim7 := { stood := { row := fnExactOpTextUptoRow, standIns := [], harness := (true, "e1640692824333f570aa23be9f732de3e3ea643257c30adcb3f9bd6cb9f87bf1"), looks := true }, kinds := [], alts := [], laidByText := true, laidKinds := [.data, .data, .data], laidTests := true, laidLooks := .later }
def FnExactOpTextUptoCardSaid : Prop := Claim7.holds Tryd.pinned (.plain (OpenSpec.upto fnExactOpTextSpec)) fnExactOpTextUptoCard

/-- THE SECOND FORM's CARD OF 'laws.FnExactResultText'. -/
def fnExactResultTextUptoCard : Claim7 := { stood := { row := fnExactResultTextUptoRow, standIns := [], harness := (true, "e1640692824333f570aa23be9f732de3e3ea643257c30adcb3f9bd6cb9f87bf1"), looks := true }, kinds := [], alts := [], laidByText := true, laidKinds := [.data, .data, .data], laidTests := true, laidLooks := .later }
def FnExactResultTextUptoCardSaid : Prop := Claim7.holds Tryd.pinned (.plain (OpenSpec.upto fnExactResultTextSpec)) fnExactResultTextUptoCard

/-- THE SECOND FORM's CARD OF 'laws.FnExactBatchText'. -/
def fnExactBatchTextUptoCard : Claim7 := { stood := { row := fnExactBatchTextUptoRow, standIns := [], harness := (true, "e1640692824333f570aa23be9f732de3e3ea643257c30adcb3f9bd6cb9f87bf1"), looks := true }, kinds := [], alts := [], laidByText := true, laidKinds := [.data, .data, .data], laidTests := true, laidLooks := .later }
def FnExactBatchTextUptoCardSaid : Prop := Claim7.holds Tryd.pinned (.plain (OpenSpec.upto fnExactBatchTextSpec)) fnExactBatchTextUptoCard

/-- THE SECOND FORM's CARD OF 'laws.FnExactReadOp'. -/
def fnExactReadOpUptoCard : Claim7 := { stood := { row := fnExactReadOpUptoRow, standIns := [], harness := (true, "e1640692824333f570aa23be9f732de3e3ea643257c30adcb3f9bd6cb9f87bf1"), looks := true }, kinds := [], alts := [], laidByText := true, laidKinds := [.data, .data, .data, .data, .sentinel, .sentinel, .pinned], laidTests := true, laidLooks := .later }
def FnExactReadOpUptoCardSaid : Prop := Claim7.holds Tryd.pinned (.plain (OpenSpec.upto fnExactReadOpSpec)) fnExactReadOpUptoCard

/-- THE SECOND FORM's CARD OF 'laws.FnExactReadResult'. -/
def fnExactReadResultUptoCard : Claim7 := { stood := { row := fnExactReadResultUptoRow, standIns := [], harness := (true, "e1640692824333f570aa23be9f732de3e3ea643257c30adcb3f9bd6cb9f87bf1"), looks := true }, kinds := [], alts := [], laidByText := true, laidKinds := [.data, .data, .data, .data, .sentinel, .sentinel, .pinned], laidTests := true, laidLooks := .later }
def FnExactReadResultUptoCardSaid : Prop := Claim7.holds Tryd.pinned (.plain (OpenSpec.upto fnExactReadResultSpec)) fnExactReadResultUptoCard
end Rows
end Go.Proofs.YtfjhdkmdidadiaaDoor
