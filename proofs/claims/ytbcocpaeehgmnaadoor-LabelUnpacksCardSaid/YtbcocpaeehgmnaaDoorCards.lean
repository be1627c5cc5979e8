/-
  DERIVED. GIVEN WITH THE SEED: THE CARDS: each row of YtbcocpaeehgmnaaDoorRows.lean that lists a variable, with what it lists TIED to the program's text (the seventh form; the later family's looks); each row that meets fmt, with fmt's text TOLD by the authors' own Lean function (tested against real Go, not proved from fmt's source: count such statements apart). THE CARD IS WHAT COUNTS. Prove the row's statement (the work); the ties are given (YtbcocpaeehgmnaaDoorTie.lean); close each card by the builder's one call (the guide's Derived/Test/ToyasCard.lean, 'card_holds'). Laid BY PROGRAM, IN A SANDBOX (cutbox-door.mjs). By AI agents, Wed Nov 11 2026. No macro, syntax, notation, axiom, sorry.
-/
import Derived.Test.YtbcocpaeehgmnaaDoorRows
import GoSem.ClaimSeven
namespace Go.Proofs.YtbcocpaeehgmnaaDoor
namespace Rows

/-- THE TIED CARD OF 'patchbaylaw4.LabelChecks'. -/
def labelChecksCard : Claim7 := { stood := { row := labelChecksRow, standIns := [], harness := (true, "685b6b73102c74a01dee983503866e4690a5f0698b3d16d4c3668982b3ca6d78"), looks := false }, kinds := [], alts := [], laidByText := true, laidKinds := [.data, .pinned], laidTests := true, laidLooks := .later }
def LabelChecksCardSaid : Prop := Claim7.holds Tryd.pinned (.plain (OpenSpec.ofChange labelChecksSpec)) labelChecksCard

/-- THE TIED CARD OF 'patchbaylaw4.LabelUnders'. -/
def labelUndersCard : Claim7 := { stood := { row := labelUndersRow, standIns := [], harness := (true, "685b6b73102c74a01dee983503866e4690a5f0698b3d16d4c3668982b3ca6d78"), looks := false }, kinds := [], alts := [], laidByText := true, laidKinds := [.data, .pinned], laidTests := true, laidLooks := .later }
def LabelUndersCardSaid : Prop := Claim7.holds Tryd.pinned (.plain (OpenSpec.ofChange labelUndersSpec)) labelUndersCard

/-- THE TIED CARD OF 'patchbaylaw4.LabelCompares'. -/
def labelComparesCard : Claim7 := { stood := { row := labelComparesRow, standIns := [], harness := (true, "685b6b73102c74a01dee983503866e4690a5f0698b3d16d4c3668982b3ca6d78"), looks := false }, kinds := [], alts := [], laidByText := true, laidKinds := [.data, .pinned], laidTests := true, laidLooks := .later }
def LabelComparesCardSaid : Prop := Claim7.holds Tryd.pinned (.plain (OpenSpec.ofChange labelComparesSpec)) labelComparesCard

/-- THE TIED CARD OF 'patchbaylaw4.LabelParents'. -/
def labelParentsCard : Claim7 := { stood := { row := labelParentsRow, standIns := [], harness := (true, "685b6b73102c74a01dee983503866e4690a5f0698b3d16d4c3668982b3ca6d78"), looks := false }, kinds := [], alts := [], laidByText := true, laidKinds := [.data, .pinned], laidTests := true, laidLooks := .later }
def LabelParentsCardSaid : Prop := Claim7.holds Tryd.pinned (.plain (OpenSpec.ofChange labelParentsSpec)) labelParentsCard

/-- THE TIED CARD OF 'patchbaylaw4.LabelPacks'. -/
def labelPacksCard : Claim7 := { stood := { row := labelPacksRow, standIns := [], harness := (true, "685b6b73102c74a01dee983503866e4690a5f0698b3d16d4c3668982b3ca6d78"), looks := false }, kinds := [], alts := [], laidByText := true, laidKinds := [.data, .pinned], laidTests := true, laidLooks := .later }
def LabelPacksCardSaid : Prop := Claim7.holds Tryd.pinned (.plain (OpenSpec.ofChange labelPacksSpec)) labelPacksCard

/-- THE TIED CARD OF 'patchbaylaw4.LabelUnpacks'. -/
def labelUnpacksCard : Claim7 := { stood := { row := labelUnpacksRow, standIns := [], harness := (true, "685b6b73102c74a01dee983503866e4690a5f0698b3d16d4c3668982b3ca6d78"), looks := false }, kinds := [], alts := [], laidByText := true, laidKinds := [.data, .pinned], laidTests := true, laidLooks := .later }
def LabelUnpacksCardSaid : Prop := Claim7.holds Tryd.pinned (.plain (OpenSpec.ofChange labelUnpacksSpec)) labelUnpacksCard

/-- THE TIED CARD OF 'patchbaylaw4.CacheSays'. -/
def cacheSaysCard : Claim7 := { stood := { row := cacheSaysRow, standIns := [], harness := (true, "685b6b73102c74a01dee983503866e4690a5f0698b3d16d4c3668982b3ca6d78"), looks := false }, kinds := [], alts := [], laidByText := true, laidKinds := [.data, .pinned], laidTests := true, laidLooks := .later }
def CacheSaysCardSaid : Prop := Claim7.holds Tryd.pinned (.plain (OpenSpec.ofChange cacheSaysSpec)) cacheSaysCard

/-- THE TIED CARD OF 'patchbaylaw4.ZoneSorts'. -/
def zoneSortsCard : Claim7 := { stood := { row := zoneSortsRow, standIns := [], harness := (true, "685b6b73102c74a01dee983503866e4690a5f0698b3d16d4c3668982b3ca6d78"), looks := false }, kinds := [], alts := [], laidByText := true, laidKinds := [.data, .pinned], laidTests := true, laidLooks := .later }
def ZoneSortsCardSaid : Prop := Claim7.holds Tryd.pinned (.plain (OpenSpec.ofChange zoneSortsSpec)) zoneSortsCard

/-- THE SECOND FORM's CARD OF 'patchbaylaw4.LabelChecks'. -/
def labelChecksUptoCard : Claim7 := { stood := { row := labelChecksUptoRow, standIns := [], harness := (true, "685b6b73102c74a01dee983503866e4690a5f0698b3d16d4c3668982b3ca6d78"), looks := false }, kinds := [], alts := [], laidByText := true, laidKinds := [.data, .pinned], laidTests := true, laidLooks := .later }
def LabelChecksUptoCardSaid : Prop := Claim7.holds Tryd.pinned (.plain (OpenSpec.upto labelChecksSpec)) labelChecksUptoCard

/-- THE SECOND FORM's CARD OF 'patchbaylaw4.LabelUnders'. -/
def labelUndersUptoCard : Claim7 := { stood := { row := labelUndersUptoRow, standIns := [], harness := (true, "685b6b73102c74a01dee983503866e4690a5f0698b3d16d4c3668982b3ca6d78"), looks := false }, kinds := [], alts := [], laidByText := true, laidKinds := [.data, .pinned], laidTests := true, laidLooks := .later }
def LabelUndersUptoCardSaid : Prop := Claim7.holds Tryd.pinned (.plain (OpenSpec.upto labelUndersSpec)) labelUndersUptoCard

/-- THE SECOND FORM's CARD OF 'patchbaylaw4.LabelCompares'. -/
def labelComparesUptoCard : Claim7 := { stood := { row := labelComparesUptoRow, standIns := [], harness := (true, "685b6b73102c74a01dee983503866e4690a5f0698b3d16d4c3668982b3ca6d78"), looks := false }, kinds := [], alts := [], laidByText := true, laidKinds := [.data, .pinned], laidTests := true, laidLooks := .later }
def LabelComparesUptoCardSaid : Prop := Claim7.holds Tryd.pinned (.plain (OpenSpec.upto labelComparesSpec)) labelComparesUptoCard

/-- THE SECOND FORM's CARD OF 'patchbaylaw4.LabelParents'. -/
def labelParentsUptoCard : Claim7 := { stood := { row := labelParentsUptoRow, standIns := [], harness := (true, "685b6b73102c74a01dee983503866e4690a5f0698b3d16d4c3668982b3ca6d78"), looks := false }, kinds := [], alts := [], laidByText := true, laidKinds := [.data, .pinned], laidTests := true, laidLooks := .later }
def LabelParentsUptoCardSaid : Prop := Claim7.holds Tryd.pinned (.plain (OpenSpec.upto labelParentsSpec)) labelParentsUptoCard

/-- THE SECOND FORM's CARD OF 'patchbaylaw4.LabelPacks'. -/
def labelPacksUptoCard : Claim7 := { stood := { row := labelPacksUptoRow, standIns := [], harness := (true, "685b6b73102c74a01dee983503866e4690a5f0698b3d16d4c3668982b3ca6d78"), looks := false }, kinds := [], alts := [], laidByText := true, laidKinds := [.data, .pinned], laidTests := true, laidLooks := .later }
def LabelPacksUptoCardSaid : Prop := Claim7.holds Tryd.pinned (.plain (OpenSpec.upto labelPacksSpec)) labelPacksUptoCard

/-- THE SECOND FORM's CARD OF 'patchbaylaw4.LabelUnpacks'. -/
def labelUnpacksUptoCard : Claim7 := { stood := { row := labelUnpacksUptoRow, standIns := [], harness := (true, "685b6b73102c74a01dee983503866e4690a5f0698b3d16d4c3668982b3ca6d78"), looks := false }, kinds := [], alts := [], laidByText := true, laidKinds := [.data, .pinned], laidTests := true, laidLooks := .later }
def LabelUnpacksUptoCardSaid : Prop := Claim7.holds Tryd.pinned (.plain (OpenSpec.upto labelUnpacksSpec)) labelUnpacksUptoCard

/-- THE SECOND FORM's CARD OF 'patchbaylaw4.CacheSays'. -/
def cacheSaysUptoCard : Claim7 := { stood := { row := cacheSaysUptoRow, standIns := [], harness := (true, "685b6b73102c74a01dee983503866e4690a5f0698b3d16d4c3668982b3ca6d78"), looks := false }, kinds := [], alts := [], laidByText := true, laidKinds := [.data, .pinned], laidTests := true, laidLooks := .later }
def CacheSaysUptoCardSaid : Prop := Claim7.holds Tryd.pinned (.plain (OpenSpec.upto cacheSaysSpec)) cacheSaysUptoCard

/-- THE SECOND FORM's CARD OF 'patchbaylaw4.ZoneSorts'. -/
def zoneSortsUptoCard : Claim7 := { stood := { row := zoneSortsUptoRow, standIns := [], harness := (true, "685b6b73102c74a01dee983503866e4690a5f0698b3d16d4c3668982b3ca6d78"), looks := false }, kinds := [], alts := [], laidByText := true, laidKinds := [.data, .pinned], laidTests := true, laidLooks := .later }
def ZoneSortsUptoCardSaid : Prop := Claim7.holds Tryd.pinned (.plain (OpenSpec.upto zoneSortsSpec)) zoneSortsUptoCard
end Rows
end Go.Proofs.YtbcocpaeehgmnaaDoor
