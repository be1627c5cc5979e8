/- '>' at strings, as the printed texts spell it: the other is less. -/
import Derived.Laws.Strings
namespace Go.Proofs.YtbcocpaeehgmnaaDoor
theorem gtr_less : ∀ (a b : List UInt8), (!(Op.bytesLess a b || a == b)) = Op.bytesLess b a
  | [], [] => rfl
  | [], _ :: _ => rfl
  | _ :: _, [] => rfl
  | x :: a, y :: b => by
    have ih := gtr_less a b
    by_cases h1 : x < y
    · have h2 : ¬ y < x := UInt8.lt_asymm h1
      have h3 : y ≠ x := fun e => by subst e; exact h2 h1
      simp [Op.bytesLess, h1, h2, h3]
    · by_cases h2 : y < x
      · have h3 : x ≠ y := fun e => by subst e; exact h1 h2
        simp [Op.bytesLess, h1, h2, h3]
      · obtain rfl : x = y := UInt8.le_antisymm (UInt8.not_lt.1 h2) (UInt8.not_lt.1 h1)
        simpa [Op.bytesLess, h1] using ih
@[go_sem] theorem binOp_string_gtr_less (t : TypeId) (a b : ByteArray) : binOp .gtr t (.string a) (.string b) = pure (.bool (Op.bytesLess b.toList a.toList)) := by
  rw [← gtr_less]
  simp [binOp, Op.stringOp]
end Go.Proofs.YtbcocpaeehgmnaaDoor
