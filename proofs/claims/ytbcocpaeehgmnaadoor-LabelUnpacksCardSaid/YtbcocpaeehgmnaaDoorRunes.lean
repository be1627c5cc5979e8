/- strings.ContainsFunc told by a predicate on runes that holds at every rune beyond ASCII: some byte of the string has it. -/
import Derived.Shelf.GgClosure.StringsIndexFunc
import Derived.Laws.RangeAny
import Derived.Laws.RangeString
import Derived.Test.YtbcocpaeehgmnaaDoorWWords
namespace Go.Proofs.YtbcocpaeehgmnaaDoor.Runes
open Go Go.RowKit Go.Proofs.YtbcocpaeehgmnaaDoorW.PrintWords

def strAny (p : Nat → Bool) (s : ByteArray) : Bool := decide (0 ≤ Lib.idxFunc p true s)

theorem from_iff (p : Nat → Bool) (hp : ∀ r, 128 ≤ r → p r = true) (s : ByteArray) : ∀ (f pos : Nat), s.size ≤ pos + f → (0 ≤ Lib.idxFuncFrom p true s f pos ↔ ∃ i, pos ≤ i ∧ ∃ h : i < s.size, p (s[i]'h).toNat = true) := by
  intro f
  induction f with
  | zero =>
    intro pos h
    constructor
    · intro h0; simp [Lib.idxFuncFrom] at h0
    · rintro ⟨i, h1, h2, _⟩; omega
  | succ f ih =>
    intro pos h
    by_cases hps : pos < s.size
    · by_cases ha : (s[pos]'hps).toNat < 128
      · simp only [Lib.idxFuncFrom, if_pos hps, decode_ascii s pos hps ha]
        by_cases hb : p (s[pos]'hps).toNat = true
        · rw [if_pos hb]
          exact ⟨fun _ => ⟨pos, Nat.le_refl _, hps, hb⟩, fun _ => by omega⟩
        · rw [if_neg hb, ih (pos + 1) (by omega)]
          constructor
          · rintro ⟨i, h1, h2, h3⟩; exact ⟨i, by omega, h2, h3⟩
          · rintro ⟨i, h1, h2, h3⟩
            refine ⟨i, ?_, h2, h3⟩
            rcases Nat.eq_or_lt_of_le h1 with e | e
            · subst e; exact absurd h3 hb
            · omega
      · have hd := decode_high s pos hps (by omega)
        simp only [Lib.idxFuncFrom, if_pos hps]
        rw [if_pos (hp _ hd.1)]
        exact ⟨fun _ => ⟨pos, Nat.le_refl _, hps, hp _ (by omega)⟩, fun _ => by omega⟩
    · rw [Lib.idxFuncFrom_end p true s _ pos hps]
      constructor
      · intro h0; omega
      · rintro ⟨i, h1, h2, _⟩; omega

theorem strAny_iff (p : Nat → Bool) (hp : ∀ r, 128 ≤ r → p r = true) (s : ByteArray) : strAny p s = true ↔ ∃ i, ∃ h : i < s.size, p (s[i]'h).toNat = true := by
  unfold strAny Lib.idxFunc
  rw [decide_eq_true_eq, from_iff p hp s s.size 0 (by omega)]
  constructor
  · rintro ⟨i, _, h2, h3⟩; exact ⟨i, h2, h3⟩
  · rintro ⟨i, h2, h3⟩; exact ⟨i, Nat.zero_le _, h2, h3⟩

end Go.Proofs.YtbcocpaeehgmnaaDoor.Runes
