/- What the structs of the laws' arguments hold, and that they can be opened. -/
import Derived.Test.YtkolbflmihfokaaMergex0
import Derived.Test.YtkolbflmihfokaaRK
namespace Go.Proofs.Ytkolbflmihfokaa.Merge
open Go.ChangeShapes Go.WideShapes Go.RowKit Go.Proofs.YtkolbflmihfokaaW.PrintWords Go.Proofs.YtkolbflmihfokaaW.RK
def v26 (x : S26) : Prop := (fun y => (Lit.int .i64 y).wf = true) x.f0 ∧ (fun y => (Lit.int .i64 y).wf = true) x.f1 ∧ (fun y => (Lit.int .i64 y).wf = true) x.f2 ∧ (fun _ => True) x.f3 ∧ (fun s => s.size ≤ 140737488351232) x.f4
theorem opens26 : Opens Try.prog 26 k26 v26 :=
  Opens.iso (fun y => (⟨y.1, y.2.1, y.2.2.1, y.2.2.2.1, y.2.2.2.2⟩ : S26)) (fun _ => rfl) (Opens.struct (total := 5) Try.underlying26 (by kernel_rfl) (OpensF.cons (off' := 1) (by kernel_rfl) (by kernel_rfl) (Opens.int (k := .i64) Try.underlying3) (OpensF.cons (off' := 2) (by kernel_rfl) (by kernel_rfl) (Opens.int (k := .i64) Try.underlying3) (OpensF.cons (off' := 3) (by kernel_rfl) (by kernel_rfl) (Opens.int (k := .i64) Try.underlying3) (OpensF.cons (off' := 4) (by kernel_rfl) (by kernel_rfl) (Opens.bool Try.underlying4) (OpensF.one (by kernel_rfl) (by kernel_rfl) (Opens.string Try.underlying9))))))) (fun _ h => h)
end Go.Proofs.Ytkolbflmihfokaa.Merge
