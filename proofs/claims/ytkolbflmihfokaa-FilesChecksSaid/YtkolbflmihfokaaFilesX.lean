/- What files.isPath asks of a string: its literal, handed to strings.ContainsFunc, and its front. -/
import Derived.Test.YtkolbflmihfokaaRunes
import Derived.Test.YtkolbflmihfokaaShelfX
import Derived.Test.YtkolbflmihfokaaShelfY
namespace Go.Proofs.Ytkolbflmihfokaa.Files
open Go.RowKit Go.Lib Go.Proofs.Ytkolbflmihfokaa.Runes

def pathBad : Nat → Bool := fun r => decide (r < 33) || decide (126 < r)

theorem lit88 (w : World) : PredAt Try.prog 88 #[] encR pathBad w := fun W r _ => by
  unfold FnGives pathBad
  by_cases h1 : r < 33 <;> by_cases h2 : 126 < r
  all_goals
    have z1 : (r : Int) < 33 ↔ r < 33 := by omega
    have z2 : (126 : Int) < (r : Int) ↔ 126 < r := by omega
    go_enter Try.func88, Try.ntmps88
    go_wp2
    all_goals first | (exfalso; omega) | (go_ret; exact ⟨by simp [h1, h2], 0, rfl⟩)

def files_isPath_1.f (a0 : ByteArray) : Option Bool := some (strAny pathBad a0)
theorem files_isPath_1.calls (a0 : ByteArray) (r : Bool) (w : World) (h : files_isPath_1.f a0 = some r) :
    Calls Try.prog 49 #[.string a0, .func (.func 88) #[] #[]] w fun e w' => e = .returned (.bool r) ∧ Below w.heap.size w w' := by
  cases Option.some.inj h
  exact Try.strings_ContainsFunc 88 #[] (enters_of Try.func88 (by kernel_rfl) rfl) pathBad a0 w (lit88 w)

def strings_HasPrefix.f (a0 a1 : ByteArray) : Option Bool := some (Lib.hasPrefix a0.data.toList a1.data.toList)
theorem strings_HasPrefix.calls (a0 a1 : ByteArray) (r : Bool) (w : World) (h : strings_HasPrefix.f a0 a1 = some r) :
    Calls Try.prog 87 #[.string a0, .string a1] w fun e w' => e = .returned (.bool r) ∧ Go.Proofs.YtkolbflmihfokaaW.PrintWords.Drawn0 w w' := by
  cases Option.some.inj h
  refine (Try.strings_HasPrefix a0 a1 w).mono ?_
  rintro e w' ⟨rfl, rfl⟩
  exact ⟨rfl, 0, rfl⟩

end Go.Proofs.Ytkolbflmihfokaa.Files
