/-
  DERIVED. GIVEN WITH THE SEED: THE CARDS: each row of YtfjhdkmdidadiaaGreatDoorRows.lean that lists a variable, with what it lists TIED to the program's text (the seventh form; the later family's looks); each row that meets fmt, with fmt's text TOLD by the authors' own Lean function (tested against real Go, not proved from fmt's source: count such statements apart). THE CARD IS WHAT COUNTS. Prove the row's statement (the work); the ties are given (YtfjhdkmdidadiaaGreatDoorTie.lean); close each card by the builder's one call (the guide's Derived/Test/ToyasCard.lean, 'card_holds'). Laid BY PROGRAM, IN A SANDBOX (cutbox-door.mjs). By AI agents, Wed Nov 11 2026. No macro, syntax, notation, axiom, sorry.
-/
import Derived.Test.YtfjhdkmdidadiaaGreatDoorRows
import GoSem.ClaimSeven
namespace Go.Proofs.YtfjhdkmdidadiaaGreatDoor
namespace Rows

/-- THE TIED CARD OF 'laws.FnExactReadBatch'. -/
def fnExactReadBatchCard : Claim7 := { stood := { row := fnExactReadBatchRow, standIns := [], harness := (true, "73f3bb99dbda49dbc577beccd9f4db392e0f96b7d24819a0b5ada606750524a5"), looks := true }, kinds := [], alts := [], laidByText := true, laidKinds := [.data, .data, .data, .data, .sentinel, .sentinel, .pinned], laidTests := true, laidLooks := .later }
def FnExactReadBatchCardSaid : Prop := Claim7.holds Tryz.pinned (.plain (OpenSpec.ofChange fnExactReadBatchSpec)) fnExactReadBatchCard

/-- THE TIED CARD OF 'laws.FnBatches'. -/
def fnBatchesCard : Claim7 := { stood := { row := fnBatchesRow, standIns := [], harness := (true, "73f3bb99dbda49dbc577beccd9f4db392e0f96b7d24819a0b5ada606750524a5"), looks := true }, kinds := [], alts := [], laidByText := true, laidKinds := [.data, .data, .data, .data, .sentinel, .sentinel, .pinned], laidTests := true, laidLooks := .later }
def FnBatchesCardSaid : Prop := Claim7.holds Tryz.pinned (.plain (OpenSpec.ofChange fnBatchesSpec)) fnBatchesCard

/-- THE SECOND FORM's CARD OF 'laws.FnExactReadBatch'. -/
def fnExactReadBatchUptoCard : Claim7 := { stood := { row := fnExactReadBatchUptoRow, standIns := [], harness := (true, "73f3bb99dbda49dbc577beccd9f4db392e0f96b7d24819a0b5ada606750524a5"), looks := true }, kinds := [], alts := [], laidByText := true, laidKinds := [.data, .data, .data, .data, .sentinel, .sentinel, .pinned], laidTests := true, laidLooks := .later }
def FnExactReadBatchUptoCardSaid : Prop := Claim7.holds Tryz.pinned (.plain (OpenSpec.upto fnExactReadBatchSpec)) fnExactReadBatchUptoCard

/-- THE SECOND FORM's CARD OF 'laws.FnBatches'. -/
def fnBatchesUptoCard : Claim7 := { stood := { row := fnBatchesUptoRow, standIns := [], harness := (true, "73f3bb99dbda49dbc577beccd9f4db392e0f96b7d24819a0b5ada606750524a5"), looks := true }, kinds := [], alts := [], laidByText := true, laidKinds := [.data, .data, .data, .data, .sentinel, .sentinel, .pinned], laidTests := true, laidLooks := .later }
def FnBatchesUptoCardSaid : Prop := Claim7.holds Tryz.pinned (.plain (OpenSpec.upto fnBatchesSpec)) fnBatchesUptoCard
end Rows
end Go.Proofs.YtfjhdkmdidadiaaGreatDoor
