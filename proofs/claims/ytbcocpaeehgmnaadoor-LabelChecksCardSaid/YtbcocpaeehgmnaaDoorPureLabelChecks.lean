/- The pure law of LabelChecks. -/
import Derived.Test.YtbcocpaeehgmnaaDoorPureLabelB
namespace Go.Proofs.YtbcocpaeehgmnaaDoor.Pure
open Go.RowKit Go.Proofs.YtbcocpaeehgmnaaDoor.Label Go.Proofs.YtbcocpaeehgmnaaDoor.Runes Go.Proofs.YtbcocpaeehgmnaaDoorW.PrintWords Go.Proofs.YtbcocpaeehgmnaaDoorW.PrintLast

theorem labelsL_len (L : List UInt8) : (labelsL L).1.length ≤ 8 := by
  unfold labelsL
  repeat' split
  all_goals first | (simp; done) | (simp only []; omega)

theorem same_runs (l : List ByteArray) (hl : l.length ≤ 1000) : ∀ (d i k : Nat), i + d = l.length → d + 1 ≤ k → patchbayref4_SameTexts.l0 k l l (l.length : Int) (i : Int) = some true := by
  intro d
  induction d with
  | zero =>
    intro i k hi hk
    obtain ⟨k, rfl⟩ : ∃ m, k = m + 1 := ⟨k - 1, by omega⟩
    rw [patchbayref4_SameTexts.l0, if_neg (by omega)]
  | succ d ih =>
    intro i k hi hk
    obtain ⟨k, rfl⟩ : ∃ m, k = m + 1 := ⟨k - 1, by omega⟩
    have hw : wrap64 ((i : Int) + 1) = ((i + 1 : Nat) : Int) := by unfold wrap64; omega
    have c : (i : Int) < (l.length : Int) := by omega
    rw [patchbayref4_SameTexts.l0, if_pos c, if_pos (by omega), if_pos c, if_pos c, if_pos rfl, hw, ih (i + 1) k (by omega) (by omega)]
theorem same_at (l : List ByteArray) (hl : l.length ≤ 1000) (k : Nat) (hk : l.length + 1 ≤ k) : patchbayref4_SameTexts.f k l l = some true := by
  unfold patchbayref4_SameTexts.f
  rw [if_pos rfl]
  exact same_runs l hl l.length 0 k (by omega) hk

theorem LabelChecks (a0 : ByteArray) (_ : a0.size ≤ 140737488351232) : ∃ k, patchbaylaw4_LabelChecks.f k a0 = some true := by
  refine ⟨400, ?_⟩
  obtain ⟨L, rfl⟩ : ∃ L, a0 = mk L := ⟨_, (mk_of a0).symm⟩
  unfold patchbaylaw4_LabelChecks.f
  have h0 : label_Check.f 400 (⟨#[]⟩ : ByteArray) = some 3 := check_at [] 400 (by omega)
  have hl := labelsL_len L
  rw [h0, Option.bind_some, if_pos rfl, labels_at L 400 (by omega), Option.bind_some, ref_at L 400 (by omega), Option.bind_some, check_at L 400 (by omega), Option.bind_some, if_pos rfl, if_pos rfl,
    same_at _ (by rw [List.length_map]; omega) 400 (by rw [List.length_map]; omega), Option.bind_some]

end Go.Proofs.YtbcocpaeehgmnaaDoor.Pure
