/- What sift.Check and the reference's SiftFault answer. -/
import Derived.Test.YtlkllccbcfhekaaDoorSiftx4
import Derived.Test.YtlkllccbcfhekaaDoorSiftx8
import Derived.Test.YtlkllccbcfhekaaDoorPureSiftF
import Derived.Test.YtlkllccbcfhekaaDoorPureSiftB
namespace Go.Proofs.YtlkllccbcfhekaaDoor.Sift
open Go.RowKit Go.Proofs.YtlkllccbcfhekaaDoorW.PrintWords
namespace Pure
set_option maxRecDepth 100000

def ans (n : Nat) (s : S24) : Int := if cnt n s > 300 ∨ dep n s > 20 then 2 else if frm n s then 0 else 3
theorem code_is (n : Nat) (s : S24) (h : v24n n s) : ∃ k, sift_Check.f k s.f0 s.f1 s.f2 s.f3 s.f4 = some (ans n s) := by
  obtain ⟨k1, h1⟩ := size_is n s h
  have h1 := h1 300 (by decide) (by decide)
  obtain ⟨k2, h2⟩ := shapes_is n s h
  by_cases hc : cnt n s ≤ 300
  · obtain ⟨k3, h3⟩ := deep_is n s h hc
    rw [if_pos (by omega)] at h1
    obtain ⟨K, q1, q2, q3⟩ : ∃ K, k1 ≤ K ∧ k2 ≤ K ∧ k3 ≤ K := ⟨k1 + k2 + k3, by omega, by omega, by omega⟩
    have e1 := up (f := fun k => sift_size.f k s.f0 s.f1 s.f2 s.f3 s.f4 300) (fun k => sift_size.mono _ _ _ _ _ _ k) (Nat.le_succ_of_le q1) h1
    have e2 := up (f := fun k => sift_shapes.f k s.f0 s.f1 s.f2 s.f3 s.f4) (fun k => sift_shapes.mono _ _ _ _ _ k) q2 h2
    have e3 := up (f := fun k => sift_deep.f k s.f0 s.f1 s.f2 s.f3 s.f4) (fun k => sift_deep.mono _ _ _ _ _ k) (Nat.le_succ_of_le q3) h3
    refine ⟨K + 1, ?_⟩
    unfold sift_Check.f
    simp only [e1, e3, Option.bind_some, sift_Check.j0, e2]
    unfold ans
    rw [if_neg (by omega)]
    by_cases hd : dep n s > 20
    · rw [if_pos (decide_eq_true (by omega)), if_pos (Or.inr hd)]
    · rw [if_neg (show ¬ (decide ((dep n s : Int) > 20) = true) by simp; omega), if_neg (show ¬ (cnt n s > 300 ∨ dep n s > 20) by omega)]
      cases frm n s <;> rfl
  · rw [if_neg (by omega)] at h1
    refine ⟨k1 + 1, ?_⟩
    have e1 := up (f := fun k => sift_size.f k s.f0 s.f1 s.f2 s.f3 s.f4 300) (fun k => sift_size.mono _ _ _ _ _ _ k) (Nat.le_succ k1) h1
    unfold sift_Check.f
    simp only [e1, Option.bind_some, sift_Check.j0]
    unfold ans
    rw [if_pos (by omega), if_pos (Or.inl (by omega)), if_pos trivial]
theorem fault_is (n : Nat) (s : S24) (h : v24n n s) : ∃ k, patchbayref4_SiftFault.f k s.f0 s.f1 s.f2 s.f3 s.f4 = some (ans n s) := by
  obtain ⟨k1, r1, r2, h1, p1, p2, p3, p4, p5, p6⟩ := weight_is n s h
  obtain ⟨k2, h2⟩ := refs_is n s h
  obtain ⟨K, q1, q2⟩ : ∃ K, k1 ≤ K ∧ k2 ≤ K := ⟨k1 + k2, by omega, by omega⟩
  have e1 := up (f := fun k => patchbayref4_SiftWeight.f k s.f0 s.f1 s.f2 s.f3 s.f4) (fun k => patchbayref4_SiftWeight.mono _ _ _ _ _ k) (Nat.le_succ_of_le q1) h1
  have e2 := up (f := fun k => patchbayref4_SiftShape.f k s.f0 s.f1 s.f2 s.f3 s.f4) (fun k => patchbayref4_SiftShape.mono _ _ _ _ _ k) q2 h2
  refine ⟨K + 1, ?_⟩
  unfold patchbayref4_SiftFault.f
  simp only [e1, Option.bind_some, patchbayref4_SiftFault.j0, e2]
  unfold ans
  by_cases hc : cnt n s ≤ 300
  · obtain ⟨z1, z2⟩ := p5 (by omega)
    rw [if_neg (by omega)]
    by_cases hd : dep n s > 20
    · rw [if_pos (decide_eq_true (by omega)), if_pos (Or.inr hd)]
    · rw [if_neg (show ¬ (decide (r2 > 20) = true) by simp; omega), if_neg (show ¬ (cnt n s > 300 ∨ dep n s > 20) by omega)]
      cases frm n s <;> rfl
  · have : r1 > 300 := by
      by_cases hc2 : cnt n s ≤ 350
      · have := (p5 hc2).1; omega
      · have := p6 (by omega); omega
    rw [if_pos this, if_pos (Or.inl (by omega)), if_pos trivial]
theorem empty_is : sift_Check.f 30 (⟨#[]⟩ : ByteArray) (⟨#[]⟩ : ByteArray) 0 0 ([] : List S24) = some 3 := by kernel_rfl
end Pure
end Go.Proofs.YtlkllccbcfhekaaDoor.Sift
