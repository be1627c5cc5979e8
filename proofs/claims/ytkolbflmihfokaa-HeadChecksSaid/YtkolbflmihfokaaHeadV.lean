/- What the structs of the laws' arguments hold, and that they can be opened. -/
import Derived.Test.YtkolbflmihfokaaHeadx0
import Derived.Test.YtkolbflmihfokaaRK
namespace Go.Proofs.Ytkolbflmihfokaa.Head
open Go.ChangeShapes Go.WideShapes Go.RowKit Go.Proofs.YtkolbflmihfokaaW.PrintWords Go.Proofs.YtkolbflmihfokaaW.RK
def v31 (x : S31) : Prop := (fun s => s.size ≤ 140737488351232) x.f0 ∧ (fun s => s.size ≤ 140737488351232) x.f1
theorem opens31 : Opens Try.prog 31 k31 v31 :=
  Opens.iso (fun y => (⟨y.1, y.2⟩ : S31)) (fun _ => rfl) (Opens.struct (total := 2) Try.underlying31 (by kernel_rfl) (OpensF.cons (off' := 1) (by kernel_rfl) (by kernel_rfl) (Opens.string Try.underlying9) (OpensF.one (by kernel_rfl) (by kernel_rfl) (Opens.string Try.underlying9)))) (fun _ h => h)
end Go.Proofs.Ytkolbflmihfokaa.Head
