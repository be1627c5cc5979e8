/-
  No cell of these rows narrows 'for every input' (looked for: loops, veiled, ifaces, maps, wideKeys, modest, calm, conditions, laid).
  DERIVED. THE GIVEN ROWS OF THIS SEAT. 10 by the template 'for every input the law returns true; each argument reads behind the call as it read before'; 0 by the template 'total and deterministic' (their statements: YtkolbflmihfokaaTotals.lean).
  GIVEN WITH THE SEED: the statements are not yours to turn. If you find one false, say at which input.
  Laid BY PROGRAM, IN A SANDBOX (cutbox-rows.mjs): the forced cells as the released guide's own fill.sh prints them over the translation 8e667410034ed062… (all of the seat's roots in one cut). By AI agents, Wed Nov 11 2026. No macro, syntax, notation, axiom, sorry.
-/
import Derived.Test.YtkolbflmihfokaaChecked
import GoSem.Claim
import GoSem.ClaimJoined
import GoSem.ClaimMapViews
import Derived.JoinedTies
import Derived.KernelRfl
namespace Go.Proofs.Ytkolbflmihfokaa
/- THE CELL 'sum', in the pinned program and in every row, IS THE sha256 OF THE DUMP (.gsa) THAT YtkolbflmihfokaaProg.lean LOADS. Nothing in Lean hashes anything: it is a label: what it is worth is what the hold of that sum in a sandbox is worth. -/
noncomputable def Try.pinned : Pinned := { name := "ytkolbflmihfokaa", sum := "8e667410034ed062dcee134566d70a04df8e428fb268a2e722ccc2819f71fe40", checked := Try.checked }
namespace Rows
def none {H : Type} : Left H := { results := [], args := [] }

/-- 'patchbaylaw4.PcapChecks': WHATEVER THE INPUT: true; the input reads as it did. -/
def pcapChecksSpec : ChangeSpec := { name := "pcapChecks", fn := fun _ => fun
  | [d] => { results := [.lit (.bool true)], args := [d] }
  | _ => none }
def pcapChecksRow : OpenClaim := { program := "ytkolbflmihfokaa", sum := "8e667410034ed062dcee134566d70a04df8e428fb268a2e722ccc2819f71fe40", func := "patchbay/patchbaylaw4.PcapChecks", spec := "pcapChecks", apart := false }
def PcapChecksSaid : Prop := pcapChecksRow.holds Try.pinned (OpenSpec.ofChange pcapChecksSpec)

/-- ITS FALSE NEIGHBOUR: 'it returns false'. Refute it at one input. -/
def pcapChecksWrong : ChangeSpec := { name := "pcapChecks", fn := fun _ => fun
  | [d] => { results := [.lit (.bool false)], args := [d] }
  | _ => none }
def PcapChecksWrongFalsely : Prop := pcapChecksRow.holds Try.pinned (OpenSpec.ofChange pcapChecksWrong)

/-- 'patchbaylaw4.HeadChecks': WHATEVER THE INPUT: true; the input reads as it did. -/
def headChecksSpec : ChangeSpec := { name := "headChecks", fn := fun _ => fun
  | [d] => { results := [.lit (.bool true)], args := [d] }
  | _ => none }
def headChecksRow : OpenClaim := { program := "ytkolbflmihfokaa", sum := "8e667410034ed062dcee134566d70a04df8e428fb268a2e722ccc2819f71fe40", func := "patchbay/patchbaylaw4.HeadChecks", spec := "headChecks", unfollowed := true, recurses := true, apart := false }
def HeadChecksSaid : Prop := headChecksRow.holds Try.pinned (OpenSpec.ofChange headChecksSpec)

/-- ITS FALSE NEIGHBOUR: 'it returns false'. Refute it at one input. -/
def headChecksWrong : ChangeSpec := { name := "headChecks", fn := fun _ => fun
  | [d] => { results := [.lit (.bool false)], args := [d] }
  | _ => none }
def HeadChecksWrongFalsely : Prop := headChecksRow.holds Try.pinned (OpenSpec.ofChange headChecksWrong)

/-- 'patchbaylaw4.FilesChecks': WHATEVER THE INPUT: true; the input reads as it did. -/
def filesChecksSpec : ChangeSpec := { name := "filesChecks", fn := fun _ => fun
  | [d] => { results := [.lit (.bool true)], args := [d] }
  | _ => none }
def filesChecksRow : OpenClaim := { program := "ytkolbflmihfokaa", sum := "8e667410034ed062dcee134566d70a04df8e428fb268a2e722ccc2819f71fe40", func := "patchbay/patchbaylaw4.FilesChecks", spec := "filesChecks", unfollowed := true, recurses := true, apart := false }
def FilesChecksSaid : Prop := filesChecksRow.holds Try.pinned (OpenSpec.ofChange filesChecksSpec)

/-- ITS FALSE NEIGHBOUR: 'it returns false'. Refute it at one input. -/
def filesChecksWrong : ChangeSpec := { name := "filesChecks", fn := fun _ => fun
  | [d] => { results := [.lit (.bool false)], args := [d] }
  | _ => none }
def FilesChecksWrongFalsely : Prop := filesChecksRow.holds Try.pinned (OpenSpec.ofChange filesChecksWrong)

/-- 'patchbaylaw4.PcapWrites': WHATEVER THE INPUT: true; the input reads as it did. -/
def pcapWritesSpec : ChangeSpec := { name := "pcapWrites", fn := fun _ => fun
  | [d] => { results := [.lit (.bool true)], args := [d] }
  | _ => none }
def pcapWritesRow : OpenClaim := { program := "ytkolbflmihfokaa", sum := "8e667410034ed062dcee134566d70a04df8e428fb268a2e722ccc2819f71fe40", func := "patchbay/patchbaylaw4.PcapWrites", spec := "pcapWrites", recurses := true, apart := false }
def PcapWritesSaid : Prop := pcapWritesRow.holds Try.pinned (OpenSpec.ofChange pcapWritesSpec)

/-- ITS FALSE NEIGHBOUR: 'it returns false'. Refute it at one input. -/
def pcapWritesWrong : ChangeSpec := { name := "pcapWrites", fn := fun _ => fun
  | [d] => { results := [.lit (.bool false)], args := [d] }
  | _ => none }
def PcapWritesWrongFalsely : Prop := pcapWritesRow.holds Try.pinned (OpenSpec.ofChange pcapWritesWrong)

/-- 'patchbaylaw4.PcapRecovers': WHATEVER THE INPUT: true; the input reads as it did. -/
def pcapRecoversSpec : ChangeSpec := { name := "pcapRecovers", fn := fun _ => fun
  | [d] => { results := [.lit (.bool true)], args := [d] }
  | _ => none }
def pcapRecoversRow : OpenClaim := { program := "ytkolbflmihfokaa", sum := "8e667410034ed062dcee134566d70a04df8e428fb268a2e722ccc2819f71fe40", func := "patchbay/patchbaylaw4.PcapRecovers", spec := "pcapRecovers", recurses := true, apart := false }
def PcapRecoversSaid : Prop := pcapRecoversRow.holds Try.pinned (OpenSpec.ofChange pcapRecoversSpec)

/-- ITS FALSE NEIGHBOUR: 'it returns false'. Refute it at one input. -/
def pcapRecoversWrong : ChangeSpec := { name := "pcapRecovers", fn := fun _ => fun
  | [d] => { results := [.lit (.bool false)], args := [d] }
  | _ => none }
def PcapRecoversWrongFalsely : Prop := pcapRecoversRow.holds Try.pinned (OpenSpec.ofChange pcapRecoversWrong)

/-- 'patchbaylaw4.PcapReads': WHATEVER THE INPUT: true; the input reads as it did. -/
def pcapReadsSpec : ChangeSpec := { name := "pcapReads", fn := fun _ => fun
  | [d] => { results := [.lit (.bool true)], args := [d] }
  | _ => none }
def pcapReadsRow : OpenClaim := { program := "ytkolbflmihfokaa", sum := "8e667410034ed062dcee134566d70a04df8e428fb268a2e722ccc2819f71fe40", func := "patchbay/patchbaylaw4.PcapReads", spec := "pcapReads", recurses := true, apart := false }
def PcapReadsSaid : Prop := pcapReadsRow.holds Try.pinned (OpenSpec.ofChange pcapReadsSpec)

/-- ITS FALSE NEIGHBOUR: 'it returns false'. Refute it at one input. -/
def pcapReadsWrong : ChangeSpec := { name := "pcapReads", fn := fun _ => fun
  | [d] => { results := [.lit (.bool false)], args := [d] }
  | _ => none }
def PcapReadsWrongFalsely : Prop := pcapReadsRow.holds Try.pinned (OpenSpec.ofChange pcapReadsWrong)

/-- 'patchbaylaw4.PcapMerges': WHATEVER THE INPUT: true; the input reads as it did. -/
def pcapMergesSpec : ChangeSpec := { name := "pcapMerges", fn := fun _ => fun
  | [d1, d2] => { results := [.lit (.bool true)], args := [d1, d2] }
  | _ => none }
def pcapMergesRow : OpenClaim := { program := "ytkolbflmihfokaa", sum := "8e667410034ed062dcee134566d70a04df8e428fb268a2e722ccc2819f71fe40", func := "patchbay/patchbaylaw4.PcapMerges", spec := "pcapMerges", unfollowed := true, recurses := true, apart := false }
def PcapMergesSaid : Prop := pcapMergesRow.holds Try.pinned (OpenSpec.ofChange pcapMergesSpec)

/-- ITS FALSE NEIGHBOUR: 'it returns false'. Refute it at one input. -/
def pcapMergesWrong : ChangeSpec := { name := "pcapMerges", fn := fun _ => fun
  | [d1, d2] => { results := [.lit (.bool false)], args := [d1, d2] }
  | _ => none }
def PcapMergesWrongFalsely : Prop := pcapMergesRow.holds Try.pinned (OpenSpec.ofChange pcapMergesWrong)

/-- 'patchbaylaw4.LineSteps': WHATEVER THE INPUT: true; the input reads as it did. -/
def lineStepsSpec : ChangeSpec := { name := "lineSteps", fn := fun _ => fun
  | [d1, d2, d3, d4] => { results := [.lit (.bool true)], args := [d1, d2, d3, d4] }
  | _ => none }
def lineStepsRow : OpenClaim := { program := "ytkolbflmihfokaa", sum := "8e667410034ed062dcee134566d70a04df8e428fb268a2e722ccc2819f71fe40", func := "patchbay/patchbaylaw4.LineSteps", spec := "lineSteps", unfollowed := true, recurses := true, apart := false }
def LineStepsSaid : Prop := lineStepsRow.holds Try.pinned (OpenSpec.ofChange lineStepsSpec)

/-- ITS FALSE NEIGHBOUR: 'it returns false'. Refute it at one input. -/
def lineStepsWrong : ChangeSpec := { name := "lineSteps", fn := fun _ => fun
  | [d1, d2, d3, d4] => { results := [.lit (.bool false)], args := [d1, d2, d3, d4] }
  | _ => none }
def LineStepsWrongFalsely : Prop := lineStepsRow.holds Try.pinned (OpenSpec.ofChange lineStepsWrong)

/-- 'patchbaylaw4.LineSays': WHATEVER THE INPUT: true; the input reads as it did. -/
def lineSaysSpec : ChangeSpec := { name := "lineSays", fn := fun _ => fun
  | [d1, d2, d3, d4] => { results := [.lit (.bool true)], args := [d1, d2, d3, d4] }
  | _ => none }
def lineSaysRow : OpenClaim := { program := "ytkolbflmihfokaa", sum := "8e667410034ed062dcee134566d70a04df8e428fb268a2e722ccc2819f71fe40", func := "patchbay/patchbaylaw4.LineSays", spec := "lineSays", inPlace := ["slices.overlaps[int]"], unfollowed := true, recurses := true, apart := false }
def LineSaysSaid : Prop := lineSaysRow.holds Try.pinned (OpenSpec.ofChange lineSaysSpec)

/-- ITS FALSE NEIGHBOUR: 'it returns false'. Refute it at one input. -/
def lineSaysWrong : ChangeSpec := { name := "lineSays", fn := fun _ => fun
  | [d1, d2, d3, d4] => { results := [.lit (.bool false)], args := [d1, d2, d3, d4] }
  | _ => none }
def LineSaysWrongFalsely : Prop := lineSaysRow.holds Try.pinned (OpenSpec.ofChange lineSaysWrong)

/-- 'patchbaytop.TopFragments': WHATEVER THE INPUT: true; the input reads as it did. -/
def topFragmentsSpec : ChangeSpec := { name := "topFragments", fn := fun _ => fun
  | [d1, d2, d3, d4, d5] => { results := [.lit (.bool true)], args := [d1, d2, d3, d4, d5] }
  | _ => none }
def topFragmentsRow : OpenClaim := { program := "ytkolbflmihfokaa", sum := "8e667410034ed062dcee134566d70a04df8e428fb268a2e722ccc2819f71fe40", func := "patchbay/patchbaytop.TopFragments", spec := "topFragments", inPlace := ["internal/abi.NoEscape"], unfollowed := true, recurses := true, apart := false }
def TopFragmentsSaid : Prop := topFragmentsRow.holds Try.pinned (OpenSpec.ofChange topFragmentsSpec)

/-- ITS FALSE NEIGHBOUR: 'it returns false'. Refute it at one input. -/
def topFragmentsWrong : ChangeSpec := { name := "topFragments", fn := fun _ => fun
  | [d1, d2, d3, d4, d5] => { results := [.lit (.bool false)], args := [d1, d2, d3, d4, d5] }
  | _ => none }
def TopFragmentsWrongFalsely : Prop := topFragmentsRow.holds Try.pinned (OpenSpec.ofChange topFragmentsWrong)

/- THE SECOND FORM. 'bulk': how many values and letters a reading holds, each counted each time it is reached (what is shared counts as often as it is met; a slice's spare places count too). A statement '..UptoSaid' is the law's where the arguments, and the package variables that the reading takes, are together of bulk at most 1048576: NARROWER than '..Said'. Prove '..Said' where nothing that the law and all that it calls make is longer than what came in: it says more and counts as full. Else prove '..UptoSaid'. A law counts once. -/
mutual
def uptoBulk {H : Type} : DataW H → Nat
  | .lit (.string bytes) => bytes.length + 1
  | .lit _ => 1
  | .nil => 1
  | .ptr d => uptoBulk d + 1
  | .slice elems spare => uptoBulkAll elems + uptoBulkAll spare + 1
  | .agg parts => uptoBulkAll parts + 1
  | .iface _ d => uptoBulk d + 1
  | .map entries => uptoBulkEntries entries + 1
  | .held _ => 1
def uptoBulkAll {H : Type} : List (DataW H) → Nat
  | [] => 0
  | d :: r => uptoBulk d + uptoBulkAll r
def uptoBulkEntries {H : Type} : List (Lit × DataW H) → Nat
  | [] => 0
  | x :: r => uptoBulkEntry x + uptoBulkEntries r
def uptoBulkEntry {H : Type} : Lit × DataW H → Nat
  | (.string bytes, d) => bytes.length + uptoBulk d + 1
  | (_, d) => uptoBulk d + 1
 end
def uptoSmall : (H : Type) → List (DataW H) → Bool := fun _ ds => decide (uptoBulkAll ds ≤ 1048576)
def OpenSpec.upto (s : _root_.Go.ChangeSpec) : _root_.Go.OpenSpec := { _root_.Go.OpenSpec.ofChange s with cond := some uptoSmall }

/-- 'patchbaylaw4.PcapChecks', WHERE WHAT IT READS IS OF BULK AT MOST 1048576: true; the input reads as it did. -/
def pcapChecksUptoRow : OpenClaim := { program := "ytkolbflmihfokaa", sum := "8e667410034ed062dcee134566d70a04df8e428fb268a2e722ccc2819f71fe40", func := "patchbay/patchbaylaw4.PcapChecks", spec := "pcapChecks", apart := false, narrowed := true }
def PcapChecksUptoSaid : Prop := pcapChecksUptoRow.holds Try.pinned (OpenSpec.upto pcapChecksSpec)

/-- 'patchbaylaw4.HeadChecks', WHERE WHAT IT READS IS OF BULK AT MOST 1048576: true; the input reads as it did. -/
def headChecksUptoRow : OpenClaim := { program := "ytkolbflmihfokaa", sum := "8e667410034ed062dcee134566d70a04df8e428fb268a2e722ccc2819f71fe40", func := "patchbay/patchbaylaw4.HeadChecks", spec := "headChecks", unfollowed := true, recurses := true, apart := false, narrowed := true }
def HeadChecksUptoSaid : Prop := headChecksUptoRow.holds Try.pinned (OpenSpec.upto headChecksSpec)

/-- 'patchbaylaw4.FilesChecks', WHERE WHAT IT READS IS OF BULK AT MOST 1048576: true; the input reads as it did. -/
def filesChecksUptoRow : OpenClaim := { program := "ytkolbflmihfokaa", sum := "8e667410034ed062dcee134566d70a04df8e428fb268a2e722ccc2819f71fe40", func := "patchbay/patchbaylaw4.FilesChecks", spec := "filesChecks", unfollowed := true, recurses := true, apart := false, narrowed := true }
def FilesChecksUptoSaid : Prop := filesChecksUptoRow.holds Try.pinned (OpenSpec.upto filesChecksSpec)

/-- 'patchbaylaw4.PcapWrites', WHERE WHAT IT READS IS OF BULK AT MOST 1048576: true; the input reads as it did. -/
def pcapWritesUptoRow : OpenClaim := { program := "ytkolbflmihfokaa", sum := "8e667410034ed062dcee134566d70a04df8e428fb268a2e722ccc2819f71fe40", func := "patchbay/patchbaylaw4.PcapWrites", spec := "pcapWrites", recurses := true, apart := false, narrowed := true }
def PcapWritesUptoSaid : Prop := pcapWritesUptoRow.holds Try.pinned (OpenSpec.upto pcapWritesSpec)

/-- 'patchbaylaw4.PcapRecovers', WHERE WHAT IT READS IS OF BULK AT MOST 1048576: true; the input reads as it did. -/
def pcapRecoversUptoRow : OpenClaim := { program := "ytkolbflmihfokaa", sum := "8e667410034ed062dcee134566d70a04df8e428fb268a2e722ccc2819f71fe40", func := "patchbay/patchbaylaw4.PcapRecovers", spec := "pcapRecovers", recurses := true, apart := false, narrowed := true }
def PcapRecoversUptoSaid : Prop := pcapRecoversUptoRow.holds Try.pinned (OpenSpec.upto pcapRecoversSpec)

/-- 'patchbaylaw4.PcapReads', WHERE WHAT IT READS IS OF BULK AT MOST 1048576: true; the input reads as it did. -/
def pcapReadsUptoRow : OpenClaim := { program := "ytkolbflmihfokaa", sum := "8e667410034ed062dcee134566d70a04df8e428fb268a2e722ccc2819f71fe40", func := "patchbay/patchbaylaw4.PcapReads", spec := "pcapReads", recurses := true, apart := false, narrowed := true }
def PcapReadsUptoSaid : Prop := pcapReadsUptoRow.holds Try.pinned (OpenSpec.upto pcapReadsSpec)

/-- 'patchbaylaw4.PcapMerges', WHERE WHAT IT READS IS OF BULK AT MOST 1048576: true; the input reads as it did. -/
def pcapMergesUptoRow : OpenClaim := { program := "ytkolbflmihfokaa", sum := "8e667410034ed062dcee134566d70a04df8e428fb268a2e722ccc2819f71fe40", func := "patchbay/patchbaylaw4.PcapMerges", spec := "pcapMerges", unfollowed := true, recurses := true, apart := false, narrowed := true }
def PcapMergesUptoSaid : Prop := pcapMergesUptoRow.holds Try.pinned (OpenSpec.upto pcapMergesSpec)

/-- 'patchbaylaw4.LineSteps', WHERE WHAT IT READS IS OF BULK AT MOST 1048576: true; the input reads as it did. -/
def lineStepsUptoRow : OpenClaim := { program := "ytkolbflmihfokaa", sum := "8e667410034ed062dcee134566d70a04df8e428fb268a2e722ccc2819f71fe40", func := "patchbay/patchbaylaw4.LineSteps", spec := "lineSteps", unfollowed := true, recurses := true, apart := false, narrowed := true }
def LineStepsUptoSaid : Prop := lineStepsUptoRow.holds Try.pinned (OpenSpec.upto lineStepsSpec)

/-- 'patchbaylaw4.LineSays', WHERE WHAT IT READS IS OF BULK AT MOST 1048576: true; the input reads as it did. -/
def lineSaysUptoRow : OpenClaim := { program := "ytkolbflmihfokaa", sum := "8e667410034ed062dcee134566d70a04df8e428fb268a2e722ccc2819f71fe40", func := "patchbay/patchbaylaw4.LineSays", spec := "lineSays", inPlace := ["slices.overlaps[int]"], unfollowed := true, recurses := true, apart := false, narrowed := true }
def LineSaysUptoSaid : Prop := lineSaysUptoRow.holds Try.pinned (OpenSpec.upto lineSaysSpec)

/-- 'patchbaytop.TopFragments', WHERE WHAT IT READS IS OF BULK AT MOST 1048576: true; the input reads as it did. -/
def topFragmentsUptoRow : OpenClaim := { program := "ytkolbflmihfokaa", sum := "8e667410034ed062dcee134566d70a04df8e428fb268a2e722ccc2819f71fe40", func := "patchbay/patchbaytop.TopFragments", spec := "topFragments", inPlace := ["internal/abi.NoEscape"], unfollowed := true, recurses := true, apart := false, narrowed := true }
def TopFragmentsUptoSaid : Prop := topFragmentsUptoRow.holds Try.pinned (OpenSpec.upto topFragmentsSpec)

end Rows
end Go.Proofs.Ytkolbflmihfokaa
