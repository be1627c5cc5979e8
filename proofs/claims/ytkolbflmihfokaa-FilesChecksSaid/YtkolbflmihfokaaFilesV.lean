/- What the structs of the laws' arguments hold, and that they can be opened. -/
import Derived.Test.YtkolbflmihfokaaFilesx0
import Derived.Test.YtkolbflmihfokaaRK
namespace Go.Proofs.Ytkolbflmihfokaa.Files
open Go.ChangeShapes Go.WideShapes Go.RowKit Go.Proofs.YtkolbflmihfokaaW.PrintWords Go.Proofs.YtkolbflmihfokaaW.RK
def v36 (x : S36) : Prop := (fun s => s.size ≤ 140737488351232) x.f0 ∧ (fun y => (Lit.int .i64 y).wf = true) x.f1 ∧ (fun s => s.size ≤ 140737488351232) x.f2
theorem opens36 : Opens Try.prog 36 k36 v36 :=
  Opens.iso (fun y => (⟨y.1, y.2.1, y.2.2⟩ : S36)) (fun _ => rfl) (Opens.struct (total := 3) Try.underlying36 (by kernel_rfl) (OpensF.cons (off' := 1) (by kernel_rfl) (by kernel_rfl) (Opens.string Try.underlying9) (OpensF.cons (off' := 2) (by kernel_rfl) (by kernel_rfl) (Opens.int (k := .i64) Try.underlying3) (OpensF.one (by kernel_rfl) (by kernel_rfl) (Opens.string Try.underlying9))))) (fun _ h => h)
end Go.Proofs.Ytkolbflmihfokaa.Files
