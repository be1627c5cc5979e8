/- The form of a filter: both answers are one. -/
import Derived.Test.YtlkllccbcfhekaaDoorXShapes
import Derived.Test.YtlkllccbcfhekaaDoorPureSiftE
namespace Go.Proofs.YtlkllccbcfhekaaDoor.Sift
open Go.RowKit Go.Proofs.YtlkllccbcfhekaaDoorW.PrintWords
namespace Pure
set_option maxRecDepth 100000

def frm : Nat → S24 → Bool
  | 0, _ => false
  | n + 1, s => shp s.f0 s.f1 s.f2 s.f3 s.f4 && s.f4.all (frm n)
theorem refs_is : ∀ n s, v24n n s → ∃ k, patchbayref4_SiftShape.f k s.f0 s.f1 s.f2 s.f3 s.f4 = some (frm n s)
  | 0, _, h => h.elim
  | n + 1, s, h => by
    unfold v24n at h
    obtain ⟨_, _, _, _, h5, h6⟩ := h
    obtain ⟨k, hk⟩ := kids_loop s.f4 (by omega) (frm n) (fun y hy => refs_is n y (h6 y hy)) s.f4.length 0 (by omega)
    exact ref_is s.f0 s.f1 s.f2 s.f3 s.f4 (s.f4.all (frm n)) k (fun ok => by simpa using hk ok)
theorem all_at {l : List S24} {spec : S24 → Bool} (h : ∀ y ∈ l, ∃ k, sift_shapes.f k y.f0 y.f1 y.f2 y.f3 y.f4 = some (spec y)) : ∃ K, ∀ y ∈ l, sift_shapes.f K y.f0 y.f1 y.f2 y.f3 y.f4 = some (spec y) := by
  induction l with
  | nil => exact ⟨0, fun y hy => by cases hy⟩
  | cons x r ih =>
    obtain ⟨K, hK⟩ := ih (fun y hy => h y (List.mem_cons_of_mem _ hy))
    obtain ⟨k, hk⟩ := h x List.mem_cons_self
    refine ⟨max K k, fun y hy => ?_⟩
    rcases List.mem_cons.1 hy with rfl | hy
    · exact up (f := fun k => sift_shapes.f k y.f0 y.f1 y.f2 y.f3 y.f4) (fun k => sift_shapes.mono _ _ _ _ _ k) (Nat.le_max_right K k) hk
    · exact up (f := fun k => sift_shapes.f k y.f0 y.f1 y.f2 y.f3 y.f4) (fun k => sift_shapes.mono _ _ _ _ _ k) (Nat.le_max_left K k) (hK y hy)
theorem idx_loop (g : G24) (l : List S24) (hl : l.length < 4611686018427387904) (spec : S24 → Bool) (hg : ∀ y ∈ l, g y.f0 y.f1 y.f2 y.f3 y.f4 = some (!spec y)) :
    ∀ m j, j + m = l.length → ∃ k i, api_SiftTerm_69.l0 g k l (l.length : Int) (j : Int) = some i ∧ decide (i ≥ 0) = !((l.drop j).all spec)
  | 0, j, hj => ⟨1, -1, by
      have hd : l.drop j = [] := List.drop_eq_nil_of_le (by omega)
      rw [api_SiftTerm_69.l0, if_neg (by omega), hd]
      exact ⟨rfl, rfl⟩⟩
  | m + 1, j, hj => by
    have hjl : j < l.length := by omega
    have hd : l.drop j = l[j] :: l.drop (j + 1) := List.drop_eq_getElem_cons hjl
    obtain ⟨k, i, hk, he⟩ := idx_loop g l hl spec hg m (j + 1) (by omega)
    have hy := hg l[j] (List.getElem_mem hjl)
    have hi : wrap64 ((j : Int) + 1) = ((j + 1 : Nat) : Int) := by rw [w64 (by omega) (by omega)]; rfl
    cases hs : spec l[j] with
    | true =>
      refine ⟨k + 1, i, ?_, ?_⟩
      · rw [api_SiftTerm_69.l0, if_pos (by omega), if_pos (by omega), if_pos (by omega)]
        simp only [rd_T24_at hjl]
        rw [hy, Option.bind_some, hs, hi]
        simpa using hk
      · rw [hd, List.all_cons, hs, Bool.true_and, he]
    | false =>
      refine ⟨1, j, ?_, ?_⟩
      · rw [api_SiftTerm_69.l0, if_pos (by omega), if_pos (by omega), if_pos (by omega)]
        simp only [rd_T24_at hjl]
        rw [hy, Option.bind_some, hs]
        rfl
      · rw [hd, List.all_cons, hs, Bool.false_and]
        exact decide_eq_true (by omega)
theorem shapes_is : ∀ n s, v24n n s → ∃ k, sift_shapes.f k s.f0 s.f1 s.f2 s.f3 s.f4 = some (frm n s)
  | 0, _, h => h.elim
  | n + 1, s, h => by
    unfold v24n at h
    obtain ⟨_, _, _, _, h5, h6⟩ := h
    obtain ⟨K, hK⟩ := all_at (spec := frm n) (fun y hy => shapes_is n y (h6 y hy))
    obtain ⟨k0, hk0⟩ := shape_is s.f0 s.f1 s.f2 s.f3 s.f4
    have hq : ∀ M, K ≤ M → ∀ y ∈ s.f4, sift_shapes_1G.f (fun a b x y l => sift_shapes.f M a b x y l) y.f0 y.f1 y.f2 y.f3 y.f4 = some (!frm n y) := fun M hM y hy => by
      unfold sift_shapes_1G.f
      have := up (f := fun k => sift_shapes.f k y.f0 y.f1 y.f2 y.f3 y.f4) (fun k => sift_shapes.mono _ _ _ _ _ k) hM (hK y hy)
      exact (congrArg (fun o => o.bind fun t => some (!t)) this).trans rfl
    obtain ⟨k1, i, hk1, hi⟩ := idx_loop _ s.f4 (by omega) (frm n) (hq K (Nat.le_refl _)) s.f4.length 0 (by omega)
    have hG : sift_shapesG.f (sift_shapes_1G.f (fun a b x y l => sift_shapes.f K a b x y l)) (max k0 k1) s.f0 s.f1 s.f2 s.f3 s.f4 = some (frm (n + 1) s) := by
      have e0 := up (f := fun k => sift_shape.f k s.f0 s.f1 s.f2 s.f3 s.f4) (fun k => sift_shape.mono _ _ _ _ _ k) (Nat.le_max_left k0 k1) hk0
      have e1 := up (f := fun k => api_SiftTerm_69.l0 (sift_shapes_1G.f (fun a b x y l => sift_shapes.f K a b x y l)) k s.f4 (s.f4.length : Int) ((0 : Nat) : Int)) (fun k => api_SiftTerm_69.mono_l _ k _ _ _) (Nat.le_max_right k0 k1) hk1
      unfold sift_shapesG.f api_SiftTerm_51.f api_SiftTerm_69.f
      rw [e0, Option.bind_some]
      have e2 := (congrArg (fun o => o.bind fun t => some (decide (t ≥ (0 : Int)))) e1)
      simp only [Option.bind_some, hi, List.drop_zero] at e2
      unfold frm
      cases hs : shp s.f0 s.f1 s.f2 s.f3 s.f4 with
      | true => rw [if_pos rfl]; refine (congrArg (fun o => o.bind fun t => some (!t)) e2).trans ?_; simp
      | false => rw [if_neg (by decide)]; simp
    refine ⟨max K (max k0 k1) + 1, ?_⟩
    rw [sift_shapes.f]
    have e3 := up (f := fun k => sift_shapesG.f (sift_shapes_1G.f (fun a b x y l => sift_shapes.f K a b x y l)) k s.f0 s.f1 s.f2 s.f3 s.f4) (fun k => sift_shapesG.mono _ _ _ _ _ _ k) (Nat.le_max_right K (max k0 k1)) hG
    refine sift_shapesG.mono_g ?_ _ _ _ _ _ _ _ e3
    intro a b x y l
    unfold sift_shapes_1G.f
    refine LeO.bind ?_ (fun _ => LeO.refl _)
    intro r hr
    exact up (f := fun k => sift_shapes.f k a b x y l) (fun k => sift_shapes.mono _ _ _ _ _ k) (Nat.le_max_left K (max k0 k1)) hr
end Pure
end Go.Proofs.YtlkllccbcfhekaaDoor.Sift
