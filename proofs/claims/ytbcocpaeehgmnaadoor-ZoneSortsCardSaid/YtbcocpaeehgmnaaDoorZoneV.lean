/- What the structs of the laws' arguments hold, and that they can be opened. -/
import Derived.Test.YtbcocpaeehgmnaaDoorZonex0
import Derived.Test.YtbcocpaeehgmnaaDoorRK
namespace Go.Proofs.YtbcocpaeehgmnaaDoor.Zone
open Go.ChangeShapes Go.WideShapes Go.RowKit Go.Proofs.YtbcocpaeehgmnaaDoorW.PrintWords Go.Proofs.YtbcocpaeehgmnaaDoorW.RK
def v68 (x : S68) : Prop := (fun s => s.size ≤ 140737488351232) x.f0 ∧ (fun y => (Lit.int .i64 y).wf = true) x.f1 ∧ (fun y => (Lit.int .i64 y).wf = true) x.f2 ∧ (fun s => s.size ≤ 140737488351232) x.f3
theorem opens68 : Opens Tryd.prog 68 k68 v68 :=
  Opens.iso (fun y => (⟨y.1, y.2.1, y.2.2.1, y.2.2.2⟩ : S68)) (fun _ => rfl) (Opens.struct (total := 4) Tryd.underlying68 (by kernel_rfl) (OpensF.cons (off' := 1) (by kernel_rfl) (by kernel_rfl) (Opens.string Tryd.underlying9) (OpensF.cons (off' := 2) (by kernel_rfl) (by kernel_rfl) (Opens.int (k := .i64) Tryd.underlying3) (OpensF.cons (off' := 3) (by kernel_rfl) (by kernel_rfl) (Opens.int (k := .i64) Tryd.underlying3) (OpensF.one (by kernel_rfl) (by kernel_rfl) (Opens.string Tryd.underlying9)))))) (fun _ h => h)
def v64 (x : S64) : Prop := (fun s => s.size ≤ 140737488351232) x.f0 ∧ (fun l => l.length * 48 ≤ 140737488351232 ∧ ∀ x ∈ l, v68 x) x.f1
theorem opens64 : Opens Tryd.prog 64 k64 v64 :=
  Opens.iso (fun y => (⟨y.1, y.2⟩ : S64)) (fun _ => rfl) (Opens.struct (total := 2) Tryd.underlying64 (by kernel_rfl) (OpensF.cons (off' := 1) (by kernel_rfl) (by kernel_rfl) (Opens.string Tryd.underlying9) (OpensF.one (by kernel_rfl) (by kernel_rfl) (Opens.slice (B := 48) Tryd.underlying50 (by kernel_rfl) (by kernel_rfl) opens68)))) (fun _ h => h)
end Go.Proofs.YtbcocpaeehgmnaaDoor.Zone
