/-
  NARROWER THAN 'FOR EVERY INPUT', by the rows' own cells (each row's printed sentence says how): LabelChecks: laid · LabelUnders: laid · LabelCompares: laid · LabelParents: laid · LabelPacks: laid · LabelUnpacks: laid · CacheSays: laid · ZoneSorts: laid.
  DERIVED. THE GIVEN ROWS OF THIS SEAT. 8 by the template 'for every input the law returns true; each argument reads behind the call as it read before'; 0 by the template 'total and deterministic' (their statements: YtbcocpaeehgmnaaDoorTotals.lean).
  GIVEN WITH THE SEED: the statements are not yours to turn. If you find one false, say at which input.
  Laid BY PROGRAM, IN A SANDBOX (cutbox-rows.mjs): the forced cells as the released guide's own fill.sh prints them over the translation f5a9e907fa7975ca… (all of the seat's roots in one cut). By AI agents, Wed Nov 11 2026. No macro, syntax, notation, axiom, sorry.
-/
import Derived.Test.YtbcocpaeehgmnaaDoorChecked
import GoSem.PinnedTables
import GoSem.Claim
import GoSem.ClaimJoined
import GoSem.ClaimMapViews
import Derived.JoinedTies
import Derived.KernelRfl
namespace Go.Proofs.YtbcocpaeehgmnaaDoor
/- THE CELL 'sum', in the pinned program and in every row, IS THE sha256 OF THE DUMP (.gsa) THAT YtbcocpaeehgmnaaDoorProg.lean LOADS. Nothing in Lean hashes anything: it is a label: what it is worth is what the hold of that sum in a sandbox is worth. -/
noncomputable def Tryd.pinned : Pinned := { name := "ytbcocpaeehgmnaadoor", sum := "f5a9e907fa7975ca122abded2430a4a11e7790b763c831970f608e8964ccf451", checked := Tryd.checked }
namespace Rows
def none {H : Type} : Left H := { results := [], args := [] }

/- WHAT THE LISTED PACKAGE-LEVEL VARIABLES READ AS WHEN THE CALL BEGINS. Each datum BY PROGRAM (the guide's laid-datum.mjs) off the statement by which the dump's own 'gosem.cut.vars' lays the variable. In a bare row this is a premise. The card (YtbcocpaeehgmnaaDoorCards.lean) ties it to the program's text. -/
def laid_unicode_utf8_acceptRanges {H : Type} : DataW H := .agg [.agg [.lit (.int .u8 128), .lit (.int .u8 191)], .agg [.lit (.int .u8 160), .lit (.int .u8 191)], .agg [.lit (.int .u8 128), .lit (.int .u8 159)], .agg [.lit (.int .u8 144), .lit (.int .u8 191)], .agg [.lit (.int .u8 128), .lit (.int .u8 143)], .agg [.lit (.int .u8 0), .lit (.int .u8 0)], .agg [.lit (.int .u8 0), .lit (.int .u8 0)], .agg [.lit (.int .u8 0), .lit (.int .u8 0)], .agg [.lit (.int .u8 0), .lit (.int .u8 0)], .agg [.lit (.int .u8 0), .lit (.int .u8 0)], .agg [.lit (.int .u8 0), .lit (.int .u8 0)], .agg [.lit (.int .u8 0), .lit (.int .u8 0)], .agg [.lit (.int .u8 0), .lit (.int .u8 0)], .agg [.lit (.int .u8 0), .lit (.int .u8 0)], .agg [.lit (.int .u8 0), .lit (.int .u8 0)], .agg [.lit (.int .u8 0), .lit (.int .u8 0)]]
/-- One of Go's own tables, pinned by name: the form's constant. -/
def laid_unicode_utf8_first : DataW Unit := Go.Pinned.utf8First

/-- 'patchbaylaw4.LabelChecks': WHATEVER THE INPUT: true; the input reads as it did. -/
def labelChecksSpec : ChangeSpec := { name := "labelChecks", fn := fun _ => fun
  | [d] => { results := [.lit (.bool true)], args := [d] }
  | _ => none }
def labelChecksRow : OpenClaim := { program := "ytbcocpaeehgmnaadoor", sum := "f5a9e907fa7975ca122abded2430a4a11e7790b763c831970f608e8964ccf451", func := "patchbay/patchbaylaw4.LabelChecks", spec := "labelChecks", inPlace := ["internal/bytealg.CountString", "internal/bytealg.IndexByteString", "internal/bytealg.IndexString"], unfollowed := true, recurses := true, named := ["unicode/utf8.first", "unicode/utf8.acceptRanges", "internal/bytealg.MaxLen"], apart := false, laid := [("unicode/utf8.acceptRanges", laid_unicode_utf8_acceptRanges), ("unicode/utf8.first", laid_unicode_utf8_first)] }
def LabelChecksSaid : Prop := labelChecksRow.holds Tryd.pinned (OpenSpec.ofChange labelChecksSpec)

/-- ITS FALSE NEIGHBOUR: 'it returns false'. Refute it at one input. -/
def labelChecksWrong : ChangeSpec := { name := "labelChecks", fn := fun _ => fun
  | [d] => { results := [.lit (.bool false)], args := [d] }
  | _ => none }
def LabelChecksWrongFalsely : Prop := labelChecksRow.holds Tryd.pinned (OpenSpec.ofChange labelChecksWrong)

/-- 'patchbaylaw4.LabelUnders': WHATEVER THE INPUT: true; the input reads as it did. -/
def labelUndersSpec : ChangeSpec := { name := "labelUnders", fn := fun _ => fun
  | [d1, d2] => { results := [.lit (.bool true)], args := [d1, d2] }
  | _ => none }
def labelUndersRow : OpenClaim := { program := "ytbcocpaeehgmnaadoor", sum := "f5a9e907fa7975ca122abded2430a4a11e7790b763c831970f608e8964ccf451", func := "patchbay/patchbaylaw4.LabelUnders", spec := "labelUnders", inPlace := ["internal/bytealg.CountString", "internal/bytealg.IndexByteString", "internal/bytealg.IndexString"], unfollowed := true, recurses := true, named := ["unicode/utf8.first", "unicode/utf8.acceptRanges", "internal/bytealg.MaxLen"], apart := false, laid := [("unicode/utf8.acceptRanges", laid_unicode_utf8_acceptRanges), ("unicode/utf8.first", laid_unicode_utf8_first)] }
def LabelUndersSaid : Prop := labelUndersRow.holds Tryd.pinned (OpenSpec.ofChange labelUndersSpec)

/-- ITS FALSE NEIGHBOUR: 'it returns false'. Refute it at one input. -/
def labelUndersWrong : ChangeSpec := { name := "labelUnders", fn := fun _ => fun
  | [d1, d2] => { results := [.lit (.bool false)], args := [d1, d2] }
  | _ => none }
def LabelUndersWrongFalsely : Prop := labelUndersRow.holds Tryd.pinned (OpenSpec.ofChange labelUndersWrong)

/-- 'patchbaylaw4.LabelCompares': WHATEVER THE INPUT: true; the input reads as it did. -/
def labelComparesSpec : ChangeSpec := { name := "labelCompares", fn := fun _ => fun
  | [d1, d2] => { results := [.lit (.bool true)], args := [d1, d2] }
  | _ => none }
def labelComparesRow : OpenClaim := { program := "ytbcocpaeehgmnaadoor", sum := "f5a9e907fa7975ca122abded2430a4a11e7790b763c831970f608e8964ccf451", func := "patchbay/patchbaylaw4.LabelCompares", spec := "labelCompares", inPlace := ["internal/bytealg.CountString", "internal/bytealg.IndexByteString", "internal/bytealg.IndexString"], unfollowed := true, recurses := true, named := ["unicode/utf8.first", "unicode/utf8.acceptRanges", "internal/bytealg.MaxLen"], apart := false, laid := [("unicode/utf8.acceptRanges", laid_unicode_utf8_acceptRanges), ("unicode/utf8.first", laid_unicode_utf8_first)] }
def LabelComparesSaid : Prop := labelComparesRow.holds Tryd.pinned (OpenSpec.ofChange labelComparesSpec)

/-- ITS FALSE NEIGHBOUR: 'it returns false'. Refute it at one input. -/
def labelComparesWrong : ChangeSpec := { name := "labelCompares", fn := fun _ => fun
  | [d1, d2] => { results := [.lit (.bool false)], args := [d1, d2] }
  | _ => none }
def LabelComparesWrongFalsely : Prop := labelComparesRow.holds Tryd.pinned (OpenSpec.ofChange labelComparesWrong)

/-- 'patchbaylaw4.LabelParents': WHATEVER THE INPUT: true; the input reads as it did. -/
def labelParentsSpec : ChangeSpec := { name := "labelParents", fn := fun _ => fun
  | [d] => { results := [.lit (.bool true)], args := [d] }
  | _ => none }
def labelParentsRow : OpenClaim := { program := "ytbcocpaeehgmnaadoor", sum := "f5a9e907fa7975ca122abded2430a4a11e7790b763c831970f608e8964ccf451", func := "patchbay/patchbaylaw4.LabelParents", spec := "labelParents", inPlace := ["internal/bytealg.CountString", "internal/bytealg.IndexByteString", "internal/bytealg.IndexString", "internal/abi.NoEscape", "internal/bytealg.MakeNoZero"], unfollowed := true, recurses := true, named := ["unicode/utf8.first", "unicode/utf8.acceptRanges", "internal/bytealg.MaxLen"], apart := false, laid := [("unicode/utf8.acceptRanges", laid_unicode_utf8_acceptRanges), ("unicode/utf8.first", laid_unicode_utf8_first)] }
def LabelParentsSaid : Prop := labelParentsRow.holds Tryd.pinned (OpenSpec.ofChange labelParentsSpec)

/-- ITS FALSE NEIGHBOUR: 'it returns false'. Refute it at one input. -/
def labelParentsWrong : ChangeSpec := { name := "labelParents", fn := fun _ => fun
  | [d] => { results := [.lit (.bool false)], args := [d] }
  | _ => none }
def LabelParentsWrongFalsely : Prop := labelParentsRow.holds Tryd.pinned (OpenSpec.ofChange labelParentsWrong)

/-- 'patchbaylaw4.LabelPacks': WHATEVER THE INPUT: true; the input reads as it did. -/
def labelPacksSpec : ChangeSpec := { name := "labelPacks", fn := fun _ => fun
  | [d] => { results := [.lit (.bool true)], args := [d] }
  | _ => none }
def labelPacksRow : OpenClaim := { program := "ytbcocpaeehgmnaadoor", sum := "f5a9e907fa7975ca122abded2430a4a11e7790b763c831970f608e8964ccf451", func := "patchbay/patchbaylaw4.LabelPacks", spec := "labelPacks", inPlace := ["internal/bytealg.CountString", "internal/bytealg.IndexByteString", "internal/bytealg.IndexString", "internal/abi.NoEscape", "internal/bytealg.MakeNoZero"], unfollowed := true, recurses := true, named := ["unicode/utf8.first", "unicode/utf8.acceptRanges", "internal/bytealg.MaxLen"], apart := false, laid := [("unicode/utf8.acceptRanges", laid_unicode_utf8_acceptRanges), ("unicode/utf8.first", laid_unicode_utf8_first)] }
def LabelPacksSaid : Prop := labelPacksRow.holds Tryd.pinned (OpenSpec.ofChange labelPacksSpec)

/-- ITS FALSE NEIGHBOUR: 'it returns false'. Refute it at one input. -/
def labelPacksWrong : ChangeSpec := { name := "labelPacks", fn := fun _ => fun
  | [d] => { results := [.lit (.bool false)], args := [d] }
  | _ => none }
def LabelPacksWrongFalsely : Prop := labelPacksRow.holds Tryd.pinned (OpenSpec.ofChange labelPacksWrong)

/-- 'patchbaylaw4.LabelUnpacks': WHATEVER THE INPUT: true; the input reads as it did. -/
def labelUnpacksSpec : ChangeSpec := { name := "labelUnpacks", fn := fun _ => fun
  | [d] => { results := [.lit (.bool true)], args := [d] }
  | _ => none }
def labelUnpacksRow : OpenClaim := { program := "ytbcocpaeehgmnaadoor", sum := "f5a9e907fa7975ca122abded2430a4a11e7790b763c831970f608e8964ccf451", func := "patchbay/patchbaylaw4.LabelUnpacks", spec := "labelUnpacks", inPlace := ["internal/abi.NoEscape", "internal/bytealg.MakeNoZero", "internal/bytealg.CountString", "internal/bytealg.IndexByteString", "internal/bytealg.IndexString"], unfollowed := true, recurses := true, named := ["unicode/utf8.first", "unicode/utf8.acceptRanges", "internal/bytealg.MaxLen"], apart := false, laid := [("unicode/utf8.acceptRanges", laid_unicode_utf8_acceptRanges), ("unicode/utf8.first", laid_unicode_utf8_first)] }
def LabelUnpacksSaid : Prop := labelUnpacksRow.holds Tryd.pinned (OpenSpec.ofChange labelUnpacksSpec)

/-- ITS FALSE NEIGHBOUR: 'it returns false'. Refute it at one input. -/
def labelUnpacksWrong : ChangeSpec := { name := "labelUnpacks", fn := fun _ => fun
  | [d] => { results := [.lit (.bool false)], args := [d] }
  | _ => none }
def LabelUnpacksWrongFalsely : Prop := labelUnpacksRow.holds Tryd.pinned (OpenSpec.ofChange labelUnpacksWrong)

/-- 'patchbaylaw4.CacheSays': WHATEVER THE INPUT: true; the input reads as it did. -/
def cacheSaysSpec : ChangeSpec := { name := "cacheSays", fn := fun _ => fun
  | [d1, d2] => { results := [.lit (.bool true)], args := [d1, d2] }
  | _ => none }
def cacheSaysRow : OpenClaim := { program := "ytbcocpaeehgmnaadoor", sum := "f5a9e907fa7975ca122abded2430a4a11e7790b763c831970f608e8964ccf451", func := "patchbay/patchbaylaw4.CacheSays", spec := "cacheSays", inPlace := ["internal/bytealg.CountString", "internal/bytealg.IndexByteString", "internal/bytealg.IndexString"], unfollowed := true, recurses := true, named := ["unicode/utf8.first", "unicode/utf8.acceptRanges", "internal/bytealg.MaxLen"], apart := false, laid := [("unicode/utf8.acceptRanges", laid_unicode_utf8_acceptRanges), ("unicode/utf8.first", laid_unicode_utf8_first)] }
def CacheSaysSaid : Prop := cacheSaysRow.holds Tryd.pinned (OpenSpec.ofChange cacheSaysSpec)

/-- ITS FALSE NEIGHBOUR: 'it returns false'. Refute it at one input. -/
def cacheSaysWrong : ChangeSpec := { name := "cacheSays", fn := fun _ => fun
  | [d1, d2] => { results := [.lit (.bool false)], args := [d1, d2] }
  | _ => none }
def CacheSaysWrongFalsely : Prop := cacheSaysRow.holds Tryd.pinned (OpenSpec.ofChange cacheSaysWrong)

/-- 'patchbaylaw4.ZoneSorts': WHATEVER THE INPUT: true; the input reads as it did. -/
def zoneSortsSpec : ChangeSpec := { name := "zoneSorts", fn := fun _ => fun
  | [d] => { results := [.lit (.bool true)], args := [d] }
  | _ => none }
def zoneSortsRow : OpenClaim := { program := "ytbcocpaeehgmnaadoor", sum := "f5a9e907fa7975ca122abded2430a4a11e7790b763c831970f608e8964ccf451", func := "patchbay/patchbaylaw4.ZoneSorts", spec := "zoneSorts", inPlace := ["internal/bytealg.CountString", "internal/bytealg.IndexByteString", "internal/bytealg.IndexString"], unfollowed := true, recurses := true, named := ["unicode/utf8.first", "unicode/utf8.acceptRanges", "internal/bytealg.MaxLen"], apart := false, laid := [("unicode/utf8.acceptRanges", laid_unicode_utf8_acceptRanges), ("unicode/utf8.first", laid_unicode_utf8_first)] }
def ZoneSortsSaid : Prop := zoneSortsRow.holds Tryd.pinned (OpenSpec.ofChange zoneSortsSpec)

/-- ITS FALSE NEIGHBOUR: 'it returns false'. Refute it at one input. -/
def zoneSortsWrong : ChangeSpec := { name := "zoneSorts", fn := fun _ => fun
  | [d] => { results := [.lit (.bool false)], args := [d] }
  | _ => none }
def ZoneSortsWrongFalsely : Prop := zoneSortsRow.holds Tryd.pinned (OpenSpec.ofChange zoneSortsWrong)

/- THE SECOND FORM. 'bulk': how many values and letters a reading holds, each counted each time it is reached (what is shared counts as often as it is met; a slice's spare places count too). A statement '..UptoSaid' is the law's where the arguments, and the package variables that the reading takes, are together of bulk at most 1048576: NARROWER than '..Said'. Prove '..Said' where nothing that the law and all that it calls make is longer than what came in: it says more and counts as full. Else prove '..UptoSaid'. A law counts once. -/
mutual
def uptoBulk {H : Type} : DataW H → Nat
  | .lit (.string bytes) => bytes.length + 1
  | .lit _ => 1
  | .nil => 1
  | .ptr d => uptoBulk d + 1
  | .slice elems spare => uptoBulkAll elems + uptoBulkAll spare + 1
  | .agg parts => uptoBulkAll parts + 1
  | .iface _ d => uptoBulk d + 1
  | .map entries => uptoBulkEntries entries + 1
  | .held _ => 1
def uptoBulkAll {H : Type} : List (DataW H) → Nat
  | [] => 0
  | d :: r => uptoBulk d + uptoBulkAll r
def uptoBulkEntries {H : Type} : List (Lit × DataW H) → Nat
  | [] => 0
  | x :: r => uptoBulkEntry x + uptoBulkEntries r
def uptoBulkEntry {H : Type} : Lit × DataW H → Nat
  | (.string bytes, d) => bytes.length + uptoBulk d + 1
  | (_, d) => uptoBulk d + 1
 end
def uptoSmall : (H : Type) → List (DataW H) → Bool := fun _ ds => decide (uptoBulkAll ds ≤ 1048576)
def OpenSpec.upto (s : _root_.Go.ChangeSpec) : _root_.Go.OpenSpec := { _root_.Go.OpenSpec.ofChange s with cond := some uptoSmall }

/-- 'patchbaylaw4.LabelChecks', WHERE WHAT IT READS IS OF BULK AT MOST 1048576: true; the input reads as it did. -/
def labelChecksUptoRow : OpenClaim := { program := "ytbcocpaeehgmnaadoor", sum := "f5a9e907fa7975ca122abded2430a4a11e7790b763c831970f608e8964ccf451", func := "patchbay/patchbaylaw4.LabelChecks", spec := "labelChecks", inPlace := ["internal/bytealg.CountString", "internal/bytealg.IndexByteString", "internal/bytealg.IndexString"], unfollowed := true, recurses := true, named := ["unicode/utf8.first", "unicode/utf8.acceptRanges", "internal/bytealg.MaxLen"], apart := false, laid := [("unicode/utf8.acceptRanges", laid_unicode_utf8_acceptRanges), ("unicode/utf8.first", laid_unicode_utf8_first)], narrowed := true }
def LabelChecksUptoSaid : Prop := labelChecksUptoRow.holds Tryd.pinned (OpenSpec.upto labelChecksSpec)

/-- 'patchbaylaw4.LabelUnders', WHERE WHAT IT READS IS OF BULK AT MOST 1048576: true; the input reads as it did. -/
def labelUndersUptoRow : OpenClaim := { program := "ytbcocpaeehgmnaadoor", sum := "f5a9e907fa7975ca122abded2430a4a11e7790b763c831970f608e8964ccf451", func := "patchbay/patchbaylaw4.LabelUnders", spec := "labelUnders", inPlace := ["internal/bytealg.CountString", "internal/bytealg.IndexByteString", "internal/bytealg.IndexString"], unfollowed := true, recurses := true, named := ["unicode/utf8.first", "unicode/utf8.acceptRanges", "internal/bytealg.MaxLen"], apart := false, laid := [("unicode/utf8.acceptRanges", laid_unicode_utf8_acceptRanges), ("unicode/utf8.first", laid_unicode_utf8_first)], narrowed := true }
def LabelUndersUptoSaid : Prop := labelUndersUptoRow.holds Tryd.pinned (OpenSpec.upto labelUndersSpec)

/-- 'patchbaylaw4.LabelCompares', WHERE WHAT IT READS IS OF BULK AT MOST 1048576: true; the input reads as it did. -/
def labelComparesUptoRow : OpenClaim := { program := "ytbcocpaeehgmnaadoor", sum := "f5a9e907fa7975ca122abded2430a4a11e7790b763c831970f608e8964ccf451", func := "patchbay/patchbaylaw4.LabelCompares", spec := "labelCompares", inPlace := ["internal/bytealg.CountString", "internal/bytealg.IndexByteString", "internal/bytealg.IndexString"], unfollowed := true, recurses := true, named := ["unicode/utf8.first", "unicode/utf8.acceptRanges", "internal/bytealg.MaxLen"], apart := false, laid := [("unicode/utf8.acceptRanges", laid_unicode_utf8_acceptRanges), ("unicode/utf8.first", laid_unicode_utf8_first)], narrowed := true }
def LabelComparesUptoSaid : Prop := labelComparesUptoRow.holds Tryd.pinned (OpenSpec.upto labelComparesSpec)

/-- 'patchbaylaw4.LabelParents', WHERE WHAT IT READS IS OF BULK AT MOST 1048576: true; the input reads as it did. -/
def labelParentsUptoRow : OpenClaim := { program := "ytbcocpaeehgmnaadoor", sum := "f5a9e907fa7975ca122abded2430a4a11e7790b763c831970f608e8964ccf451", func := "patchbay/patchbaylaw4.LabelParents", spec := "labelParents", inPlace := ["internal/bytealg.CountString", "internal/bytealg.IndexByteString", "internal/bytealg.IndexString", "internal/abi.NoEscape", "internal/bytealg.MakeNoZero"], unfollowed := true, recurses := true, named := ["unicode/utf8.first", "unicode/utf8.acceptRanges", "internal/bytealg.MaxLen"], apart := false, laid := [("unicode/utf8.acceptRanges", laid_unicode_utf8_acceptRanges), ("unicode/utf8.first", laid_unicode_utf8_first)], narrowed := true }
def LabelParentsUptoSaid : Prop := labelParentsUptoRow.holds Tryd.pinned (OpenSpec.upto labelParentsSpec)

/-- 'patchbaylaw4.LabelPacks', WHERE WHAT IT READS IS OF BULK AT MOST 1048576: true; the input reads as it did. -/
def labelPacksUptoRow : OpenClaim := { program := "ytbcocpaeehgmnaadoor", sum := "f5a9e907fa7975ca122abded2430a4a11e7790b763c831970f608e8964ccf451", func := "patchbay/patchbaylaw4.LabelPacks", spec := "labelPacks", inPlace := ["internal/bytealg.CountString", "internal/bytealg.IndexByteString", "internal/bytealg.IndexString", "internal/abi.NoEscape", "internal/bytealg.MakeNoZero"], unfollowed := true, recurses := true, named := ["unicode/utf8.first", "unicode/utf8.acceptRanges", "internal/bytealg.MaxLen"], apart := false, laid := [("unicode/utf8.acceptRanges", laid_unicode_utf8_acceptRanges), ("unicode/utf8.first", laid_unicode_utf8_first)], narrowed := true }
def LabelPacksUptoSaid : Prop := labelPacksUptoRow.holds Tryd.pinned (OpenSpec.upto labelPacksSpec)

/-- 'patchbaylaw4.LabelUnpacks', WHERE WHAT IT READS IS OF BULK AT MOST 1048576: true; the input reads as it did. -/
def labelUnpacksUptoRow : OpenClaim := { program := "ytbcocpaeehgmnaadoor", sum := "f5a9e907fa7975ca122abded2430a4a11e7790b763c831970f608e8964ccf451", func := "patchbay/patchbaylaw4.LabelUnpacks", spec := "labelUnpacks", inPlace := ["internal/abi.NoEscape", "internal/bytealg.MakeNoZero", "internal/bytealg.CountString", "internal/bytealg.IndexByteString", "internal/bytealg.IndexString"], unfollowed := true, recurses := true, named := ["unicode/utf8.first", "unicode/utf8.acceptRanges", "internal/bytealg.MaxLen"], apart := false, laid := [("unicode/utf8.acceptRanges", laid_unicode_utf8_acceptRanges), ("unicode/utf8.first", laid_unicode_utf8_first)], narrowed := true }
def LabelUnpacksUptoSaid : Prop := labelUnpacksUptoRow.holds Tryd.pinned (OpenSpec.upto labelUnpacksSpec)

/-- 'patchbaylaw4.CacheSays', WHERE WHAT IT READS IS OF BULK AT MOST 1048576: true; the input reads as it did. -/
def cacheSaysUptoRow : OpenClaim := { program := "ytbcocpaeehgmnaadoor", sum := "f5a9e907fa7975ca122abded2430a4a11e7790b763c831970f608e8964ccf451", func := "patchbay/patchbaylaw4.CacheSays", spec := "cacheSays", inPlace := ["internal/bytealg.CountString", "internal/bytealg.IndexByteString", "internal/bytealg.IndexString"], unfollowed := true, recurses := true, named := ["unicode/utf8.first", "unicode/utf8.acceptRanges", "internal/bytealg.MaxLen"], apart := false, laid := [("unicode/utf8.acceptRanges", laid_unicode_utf8_acceptRanges), ("unicode/utf8.first", laid_unicode_utf8_first)], narrowed := true }
def CacheSaysUptoSaid : Prop := cacheSaysUptoRow.holds Tryd.pinned (OpenSpec.upto cacheSaysSpec)

/-- 'patchbaylaw4.ZoneSorts', WHERE WHAT IT READS IS OF BULK AT MOST 1048576: true; the input reads as it did. -/
def zoneSortsUptoRow : OpenClaim := { program := "ytbcocpaeehgmnaadoor", sum := "f5a9e907fa7975ca122abded2430a4a11e7790b763c831970f608e8964ccf451", func := "patchbay/patchbaylaw4.ZoneSorts", spec := "zoneSorts", inPlace := ["internal/bytealg.CountString", "internal/bytealg.IndexByteString", "internal/bytealg.IndexString"], unfollowed := true, recurses := true, named := ["unicode/utf8.first", "unicode/utf8.acceptRanges", "internal/bytealg.MaxLen"], apart := false, laid := [("unicode/utf8.acceptRanges", laid_unicode_utf8_acceptRanges), ("unicode/utf8.first", laid_unicode_utf8_first)], narrowed := true }
def ZoneSortsUptoSaid : Prop := zoneSortsUptoRow.holds Tryd.pinned (OpenSpec.upto zoneSortsSpec)

end Rows
end Go.Proofs.YtbcocpaeehgmnaaDoor
