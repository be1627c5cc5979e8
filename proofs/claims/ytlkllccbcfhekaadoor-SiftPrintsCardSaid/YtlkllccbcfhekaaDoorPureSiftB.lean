/- The weight of a filter, by the reference: what SiftWeight answers. -/
import Derived.Test.YtlkllccbcfhekaaDoorSiftx6
import Derived.Test.YtlkllccbcfhekaaDoorPureSiftA
namespace Go.Proofs.YtlkllccbcfhekaaDoor.Sift
open Go.RowKit Go.Proofs.YtlkllccbcfhekaaDoorW.PrintWords
namespace Pure

theorem weight_loop (n : Nat) (l : List S24) (hl : l.length < 4611686018427387904)
    (ih : ∀ y ∈ l, ∃ k r1 r2, patchbayref4_SiftWeight.f k y.f0 y.f1 y.f2 y.f3 y.f4 = some (r1, r2) ∧ 0 ≤ r1 ∧ r1 ≤ 400 ∧ 0 ≤ r2 ∧ r2 ≤ 400 ∧ (cnt n y ≤ 350 → r1 = (cnt n y : Int) ∧ r2 = (dep n y : Int)) ∧ (350 < cnt n y → 350 < r1)) :
    ∀ m j, j + m = l.length → ∀ acc d : Int, 1 ≤ acc → acc ≤ 750 → 0 ≤ d → d ≤ 400 → ∃ k r1 r2, patchbayref4_SiftWeight.l0 k acc d l (l.length : Int) (j : Int) = some (r1, r2) ∧ 0 ≤ r1 ∧ r1 ≤ 400 ∧ 0 ≤ r2 ∧ r2 ≤ 400 ∧
      (acc + (((l.drop j).map (cnt n)).sum : Int) ≤ 350 → r1 = acc + (((l.drop j).map (cnt n)).sum : Int) ∧ r2 = mn (mx d ((((l.drop j).map (dep n)).foldr max 0 : Nat) : Int) + 1) 400) ∧ (350 < acc + (((l.drop j).map (cnt n)).sum : Int) → 350 < r1)
  | 0, j, hj, acc, d, h1, h2, h3, h4 => by
    have hd : l.drop j = [] := List.drop_eq_nil_of_le (by omega)
    refine ⟨1, mn acc 400, mn (wrap64 (d + 1)) 400, ?_, ?_⟩
    · rw [patchbayref4_SiftWeight.l0, if_neg (by omega)]
    · rw [hd, w64 (by omega) (by omega)]
      simp only [List.map_nil, List.sum_nil, List.foldr_nil]
      unfold mn mx
      refine ⟨by split <;> omega, by split <;> omega, by split <;> omega, by split <;> omega, fun h => ⟨by split <;> omega, ?_⟩, fun h => by split <;> omega⟩
      repeat' split
      all_goals omega
  | m + 1, j, hj, acc, d, h1, h2, h3, h4 => by
    have hjl : j < l.length := by omega
    have hd : l.drop j = l[j] :: l.drop (j + 1) := List.drop_eq_getElem_cons hjl
    rw [hd]
    simp only [List.map_cons, List.sum_cons, List.foldr_cons]
    by_cases ha : acc > 350
    · refine ⟨1, mn acc 400, mn (wrap64 (d + 1)) 400, ?_, ?_⟩
      · rw [patchbayref4_SiftWeight.l0, if_pos (by omega), if_pos (by omega), if_pos (by omega), if_pos ha]
      · rw [w64 (by omega) (by omega)]
        unfold mn
        exact ⟨by split <;> omega, by split <;> omega, by split <;> omega, by split <;> omega, fun h => by omega, fun h => by split <;> omega⟩
    · obtain ⟨k2, a1, a2, e1, q1, q2, q3, q4, q5, q6⟩ := ih l[j] (List.getElem_mem hjl)
      obtain ⟨k1, r1, r2, e2, p1, p2, p3, p4, p5, p6⟩ := weight_loop n l hl ih m (j + 1) (by omega) (acc + a1) (mx d a2) (by omega) (by omega) (by unfold mx; split <;> omega) (by unfold mx; split <;> omega)
      refine ⟨max k1 k2 + 1, r1, r2, ?_, p1, p2, p3, p4, ?_, ?_⟩
      · rw [patchbayref4_SiftWeight.l0, if_pos (by omega), if_pos (by omega), if_pos (by omega), if_neg ha]
        simp only [rd_T24_at hjl]
        have e3 := up (f := fun k => patchbayref4_SiftWeight.f k l[j].f0 l[j].f1 l[j].f2 l[j].f3 l[j].f4) (fun k => patchbayref4_SiftWeight.mono _ _ _ _ _ k) (Nat.le_max_right k1 k2) e1
        have e4 := up (f := fun k => patchbayref4_SiftWeight.l0 k (acc + a1) (mx d a2) l (l.length : Int) ((j + 1 : Nat) : Int)) (fun k => (patchbayref4_SiftWeight.mono_l k).2 _ _ _ _ _) (Nat.le_max_left k1 k2) e2
        have hi : wrap64 ((j : Int) + 1) = ((j + 1 : Nat) : Int) := by rw [w64 (by omega) (by omega)]; rfl
        rw [e3, Option.bind_some]
        show patchbayref4_SiftWeight.l0 _ (wrap64 (acc + a1)) (mx d a2) _ _ (wrap64 ((j : Int) + 1)) = _
        rw [hi, w64 (by omega) (by omega)]
        exact e4
      · intro h
        obtain ⟨z1, z2⟩ := q5 (by omega)
        obtain ⟨y1, y2⟩ := p5 (by omega)
        refine ⟨by omega, ?_⟩
        rw [y2]
        have hx : mx (mx d a2) ((((l.drop (j + 1)).map (dep n)).foldr max 0 : Nat) : Int) = mx d ((max (dep n l[j]) (((l.drop (j + 1)).map (dep n)).foldr max 0) : Nat) : Int) := by
          rw [z2]
          unfold mx
          split <;> split <;> split <;> omega
        rw [hx]
      · intro h
        by_cases hc : cnt n l[j] ≤ 350
        · exact p6 (by have := (q5 hc).1; omega)
        · exact p6 (by have := q6 (by omega); omega)
/-- SiftWeight answers the number of terms and the depth, where these are small. -/
theorem weight_is : ∀ n s, v24n n s → ∃ k r1 r2, patchbayref4_SiftWeight.f k s.f0 s.f1 s.f2 s.f3 s.f4 = some (r1, r2) ∧ 0 ≤ r1 ∧ r1 ≤ 400 ∧ 0 ≤ r2 ∧ r2 ≤ 400 ∧ (cnt n s ≤ 350 → r1 = (cnt n s : Int) ∧ r2 = (dep n s : Int)) ∧ (350 < cnt n s → 350 < r1)
  | 0, _, h => h.elim
  | n + 1, s, h => by
    unfold v24n at h
    obtain ⟨_, _, _, _, h5, h6⟩ := h
    obtain ⟨k, r1, r2, e, p1, p2, p3, p4, p5, p6⟩ := weight_loop n s.f4 (by omega) (fun y hy => weight_is n y (h6 y hy)) s.f4.length 0 (by omega) 1 0 (by omega) (by omega) (by omega) (by omega)
    have hdl := dep_le (n + 1) s
    simp only [cnt, dep] at hdl ⊢
    simp only [List.drop_zero] at p5 p6
    refine ⟨k + 1, r1, r2, ?_, p1, p2, p3, p4, fun hc => ?_, fun hc => p6 (by omega)⟩
    · rw [patchbayref4_SiftWeight.f]; exact e
    · obtain ⟨y1, y2⟩ := p5 (by omega)
      refine ⟨by omega, ?_⟩
      rw [y2]
      unfold mn mx
      split <;> split <;> omega
end Pure
end Go.Proofs.YtlkllccbcfhekaaDoor.Sift
