/- What head.Check's two literals ask of a string, handed to strings.ContainsFunc. -/
import Derived.Test.YtkolbflmihfokaaRunes
import Derived.Test.YtkolbflmihfokaaShelfX
namespace Go.Proofs.Ytkolbflmihfokaa.Head
open Go.RowKit Go.Lib Go.Proofs.Ytkolbflmihfokaa.Runes

def nameBad : Nat → Bool := fun r => decide (r < 33) || decide (126 < r) || (decide (65 ≤ r) && decide (r ≤ 90))
def valueBad : Nat → Bool := fun r => decide (r < 32) || decide (126 < r)

theorem lit50 (w : World) : PredAt Try.prog 50 #[] encR nameBad w := fun W r _ => by
  unfold FnGives nameBad
  by_cases h1 : r < 33 <;> by_cases h2 : 126 < r <;> by_cases h3 : 65 ≤ r <;> by_cases h4 : r ≤ 90
  all_goals
    have z1 : (r : Int) < 33 ↔ r < 33 := by omega
    have z2 : (126 : Int) < (r : Int) ↔ 126 < r := by omega
    have z3 : (65 : Int) ≤ (r : Int) ↔ 65 ≤ r := by omega
    have z4 : (r : Int) ≤ 90 ↔ r ≤ 90 := by omega
    go_enter Try.func50, Try.ntmps50
    go_wp2
    all_goals first | (exfalso; omega) | (go_ret; exact ⟨by simp [h1, h2, h3, h4], 0, rfl⟩)

theorem lit51 (w : World) : PredAt Try.prog 51 #[] encR valueBad w := fun W r _ => by
  unfold FnGives valueBad
  by_cases h1 : r < 32 <;> by_cases h2 : 126 < r
  all_goals
    have z1 : (r : Int) < 32 ↔ r < 32 := by omega
    have z2 : (126 : Int) < (r : Int) ↔ 126 < r := by omega
    go_enter Try.func51, Try.ntmps51
    go_wp2
    all_goals first | (exfalso; omega) | (go_ret; exact ⟨by simp [h1, h2], 0, rfl⟩)

def head_Check_1.f (a0 : ByteArray) : Option Bool := some (strAny nameBad a0)
theorem head_Check_1.calls (a0 : ByteArray) (r : Bool) (w : World) (h : head_Check_1.f a0 = some r) :
    Calls Try.prog 49 #[.string a0, .func (.func 50) #[] #[]] w fun e w' => e = .returned (.bool r) ∧ Below w.heap.size w w' := by
  cases Option.some.inj h
  exact Try.strings_ContainsFunc 50 #[] (enters_of Try.func50 (by kernel_rfl) rfl) nameBad a0 w (lit50 w)

def head_Check_2.f (a0 : ByteArray) : Option Bool := some (strAny valueBad a0)
theorem head_Check_2.calls (a0 : ByteArray) (r : Bool) (w : World) (h : head_Check_2.f a0 = some r) :
    Calls Try.prog 49 #[.string a0, .func (.func 51) #[] #[]] w fun e w' => e = .returned (.bool r) ∧ Below w.heap.size w w' := by
  cases Option.some.inj h
  exact Try.strings_ContainsFunc 51 #[] (enters_of Try.func51 (by kernel_rfl) rfl) valueBad a0 w (lit51 w)

end Go.Proofs.Ytkolbflmihfokaa.Head
