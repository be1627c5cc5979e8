/-
  DERIVED. GIVEN WITH THE SEED: THE CARDS: each row of YtlkllccbcfhekaaDoorRows.lean that lists a variable, with what it lists TIED to the program's text (the seventh form; the later family's looks); each row that meets fmt, with fmt's text TOLD by the authors' own Lean function (tested against real Go, not proved from fmt's source: count such statements apart). THE CARD IS WHAT COUNTS. Prove the row's statement (the work); the ties are given (YtlkllccbcfhekaaDoorTie.lean); close each card by the builder's one call (the guide's Derived/Test/ToyasCard.lean, 'card_holds'). Laid BY PROGRAM, IN A SANDBOX (cutbox-door.mjs). By AI agents, Wed Nov 11 2026. No macro, syntax, notation, axiom, sorry.
-/
import Derived.Test.YtlkllccbcfhekaaDoorRows
import GoSem.ClaimSeven
namespace Go.Proofs.YtlkllccbcfhekaaDoor
namespace Rows

/-- THE TIED CARD OF 'patchbaylaw4.SiftPrints'. -/
def siftPrintsCard : Claim7 := { stood := { row := siftPrintsRow, standIns := [], harness := (true, "479f702a6f7699e267e3756838674fea79c202f926f839d15fb334158510767a"), looks := false }, kinds := [], alts := [], laidByText := true, laidKinds := [.data, .data, .data, .widerDeep], laidTests := true, laidLooks := .later }
def SiftPrintsCardSaid : Prop := Claim7.holds Tryd.pinned (.plain (OpenSpec.ofChange siftPrintsSpec)) siftPrintsCard

/-- THE TIED CARD OF 'patchbaylaw4.SiftHolds'. -/
def siftHoldsCard : Claim7 := { stood := { row := siftHoldsRow, standIns := [], harness := (true, "479f702a6f7699e267e3756838674fea79c202f926f839d15fb334158510767a"), looks := false }, kinds := [], alts := [], laidByText := true, laidKinds := [.widerDeep], laidTests := true, laidLooks := .later }
def SiftHoldsCardSaid : Prop := Claim7.holds Tryd.pinned (.plain (OpenSpec.ofChange siftHoldsSpec)) siftHoldsCard

/-- THE TIED CARD OF 'patchbaylaw4.SiftNormals'. -/
def siftNormalsCard : Claim7 := { stood := { row := siftNormalsRow, standIns := [], harness := (true, "479f702a6f7699e267e3756838674fea79c202f926f839d15fb334158510767a"), looks := false }, kinds := [], alts := [], laidByText := true, laidKinds := [.widerDeep], laidTests := true, laidLooks := .later }
def SiftNormalsCardSaid : Prop := Claim7.holds Tryd.pinned (.plain (OpenSpec.ofChange siftNormalsSpec)) siftNormalsCard

/-- THE SECOND FORM's CARD OF 'patchbaylaw4.SiftPrints'. -/
def siftPrintsUptoCard : Claim7 := { stood := { row := siftPrintsUptoRow, standIns := [], harness := (true, "479f702a6f7699e267e3756838674fea79c202f926f839d15fb334158510767a"), looks := false }, kinds := [], alts := [], laidByText := true, laidKinds := [.data, .data, .data, .widerDeep], laidTests := true, laidLooks := .later }
def SiftPrintsUptoCardSaid : Prop := Claim7.holds Tryd.pinned (.plain (OpenSpec.upto siftPrintsSpec)) siftPrintsUptoCard

/-- THE SECOND FORM's CARD OF 'patchbaylaw4.SiftHolds'. -/
def siftHoldsUptoCard : Claim7 := { stood := { row := siftHoldsUptoRow, standIns := [], harness := (true, "479f702a6f7699e267e3756838674fea79c202f926f839d15fb334158510767a"), looks := false }, kinds := [], alts := [], laidByText := true, laidKinds := [.widerDeep], laidTests := true, laidLooks := .later }
def SiftHoldsUptoCardSaid : Prop := Claim7.holds Tryd.pinned (.plain (OpenSpec.upto siftHoldsSpec)) siftHoldsUptoCard

/-- THE SECOND FORM's CARD OF 'patchbaylaw4.SiftNormals'. -/
def siftNormalsUptoCard : Claim7 := { stood := { row := siftNormalsUptoRow, standIns := [], harness := (true, "479f702a6f7699e267e3756838674fea79c202f926f839d15fb334158510767a"), looks := false }, kinds := [], alts := [], laidByText := true, laidKinds := [.widerDeep], laidTests := true, laidLooks := .later }
def SiftNormalsUptoCardSaid : Prop := Claim7.holds Tryd.pinned (.plain (OpenSpec.upto siftNormalsSpec)) siftNormalsUptoCard
end Rows
end Go.Proofs.YtlkllccbcfhekaaDoor
