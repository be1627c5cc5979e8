/-
  DERIVED. GIVEN WITH THE SEED: THE CARDS: each row of YtkolbflmihfokaaDoorRows.lean that lists a variable, with what it lists TIED to the program's text (the seventh form; the later family's looks); each row that meets fmt, with fmt's text TOLD by the authors' own Lean function (tested against real Go, not proved from fmt's source: count such statements apart). THE CARD IS WHAT COUNTS. Prove the row's statement (the work); the ties are given (YtkolbflmihfokaaDoorTie.lean); close each card by the builder's one call (the guide's Derived/Test/ToyasCard.lean, 'card_holds'). Laid BY PROGRAM, IN A SANDBOX (cutbox-door.mjs). By AI agents, Wed Nov 11 2026. No macro, syntax, notation, axiom, sorry.
-/
import Derived.Test.YtkolbflmihfokaaDoorRows
import GoSem.ClaimSeven
namespace Go.Proofs.YtkolbflmihfokaaDoor
namespace Rows

/-- THE TIED CARD OF 'patchbaylaw4.SiftChecks'. -/
def siftChecksCard : Claim7 := { stood := { row := siftChecksRow, standIns := [], harness := (true, "91ef8875e8e4d6e7a4a47ccd1c2c01199dc484cf4d78aecd04c7c20e34395850"), looks := true }, kinds := [], alts := [], laidByText := true, laidKinds := [.widerDeep], laidTests := true, laidLooks := .later }
def SiftChecksCardSaid : Prop := Claim7.holds Tryd.pinned (.plain (OpenSpec.ofChange siftChecksSpec)) siftChecksCard

/-- THE TIED CARD OF 'patchbaylaw4.FilesServes'. -/
def filesServesCard : Claim7 := { stood := { row := filesServesRow, standIns := [], harness := (true, "91ef8875e8e4d6e7a4a47ccd1c2c01199dc484cf4d78aecd04c7c20e34395850"), looks := true }, kinds := [], alts := [], laidByText := true, laidKinds := [.data, .data, .data, .sentinel, .sentinel], laidTests := true, laidLooks := .later }
def FilesServesCardSaid : Prop := Claim7.holds Tryd.pinned (.plain (OpenSpec.ofChange filesServesSpec)) filesServesCard

/-- THE SECOND FORM's CARD OF 'patchbaylaw4.SiftChecks'. -/
def siftChecksUptoCard : Claim7 := { stood := { row := siftChecksUptoRow, standIns := [], harness := (true, "91ef8875e8e4d6e7a4a47ccd1c2c01199dc484cf4d78aecd04c7c20e34395850"), looks := true }, kinds := [], alts := [], laidByText := true, laidKinds := [.widerDeep], laidTests := true, laidLooks := .later }
def SiftChecksUptoCardSaid : Prop := Claim7.holds Tryd.pinned (.plain (OpenSpec.upto siftChecksSpec)) siftChecksUptoCard

/-- THE SECOND FORM's CARD OF 'patchbaylaw4.FilesServes'. -/
def filesServesUptoCard : Claim7 := { stood := { row := filesServesUptoRow, standIns := [], harness := (true, "91ef8875e8e4d6e7a4a47ccd1c2c01199dc484cf4d78aecd04c7c20e34395850"), looks := true }, kinds := [], alts := [], laidByText := true, laidKinds := [.data, .data, .data, .sentinel, .sentinel], laidTests := true, laidLooks := .later }
def FilesServesUptoCardSaid : Prop := Claim7.holds Tryd.pinned (.plain (OpenSpec.upto filesServesSpec)) filesServesUptoCard
end Rows
end Go.Proofs.YtkolbflmihfokaaDoor
