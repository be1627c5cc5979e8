/- The number of terms and the depth of a filter: what sift.size answers. -/
import Derived.Test.YtlkllccbcfhekaaDoorSiftx1
import Derived.Test.YtlkllccbcfhekaaDoorSiftx1
import Derived.Test.YtlkllccbcfhekaaDoorSiftV
namespace Go.Proofs.YtlkllccbcfhekaaDoor.Sift
open Go.RowKit Go.Proofs.YtlkllccbcfhekaaDoorW.PrintWords
namespace Pure

theorem up {α : Type} {f : Nat → Option α} (h : ∀ k, LeO (f k) (f (k + 1))) {k k' : Nat} (hk : k ≤ k') {r : α} (hr : f k = some r) : f k' = some r := by
  obtain ⟨j, rfl⟩ := Nat.exists_eq_add_of_le hk
  induction j with
  | zero => exact hr
  | succ j ih => exact h _ _ (ih (by omega))
def cnt : Nat → S24 → Nat
  | 0, _ => 0
  | n + 1, x => 1 + (x.f4.map (cnt n)).sum
def dep : Nat → S24 → Nat
  | 0, _ => 0
  | n + 1, x => 1 + (x.f4.map (dep n)).foldr max 0
theorem rd_T24_at {l : List S24} {j : Nat} (h : j < l.length) : rd_T24 l (j : Int) = l[j] := by
  simp [rd_T24, List.getD, h]
theorem w64 {x : Int} (h0 : -9223372036854775808 ≤ x) (h1 : x < 9223372036854775808) : wrap64 x = x := by
  unfold wrap64; omega

theorem size_loop (n : Nat) (l : List S24) (hl : l.length < 4611686018427387904) (ih : ∀ y ∈ l, ∃ k, ∀ b : Int, 0 ≤ b → b ≤ 300 → sift_size.f k y.f0 y.f1 y.f2 y.f3 y.f4 b = some (if (cnt n y : Int) ≤ b then (cnt n y : Int) else b + 1)) :
    ∀ m j, j + m = l.length → ∃ k, ∀ b acc : Int, 0 ≤ b → b ≤ 300 → 1 ≤ acc → acc ≤ b + 1 →
      sift_size.l0 k b acc l (l.length : Int) (j : Int) = some (if acc + (((l.drop j).map (cnt n)).sum : Int) ≤ b then acc + (((l.drop j).map (cnt n)).sum : Int) else b + 1)
  | 0, j, hj => ⟨1, fun b acc h0 h1 h2 h3 => by
      have hd : l.drop j = [] := List.drop_eq_nil_of_le (by omega)
      rw [sift_size.l0, if_neg (by omega), hd]
      simp only [List.map_nil, List.sum_nil]
      congr 1
      split <;> omega⟩
  | m + 1, j, hj => by
    have hjl : j < l.length := by omega
    obtain ⟨k1, hk1⟩ := size_loop n l hl ih m (j + 1) (by omega)
    obtain ⟨k2, hk2⟩ := ih l[j] (List.getElem_mem hjl)
    refine ⟨max k1 k2 + 1, fun b acc h0 h1 h2 h3 => ?_⟩
    have hd : l.drop j = l[j] :: l.drop (j + 1) := List.drop_eq_getElem_cons hjl
    rw [sift_size.l0, if_pos (by omega), if_pos (by omega), if_pos (by omega), hd]
    simp only [List.map_cons, List.sum_cons, rd_T24_at hjl]
    by_cases ha : acc > b
    · rw [if_pos ha]
      congr 1
      rw [if_neg (by omega)]
      omega
    · rw [if_neg ha, w64 (by omega) (by omega)]
      have e1 := hk2 (b - acc) (by omega) (by omega)
      have e2 := up (f := fun k => sift_size.f k l[j].f0 l[j].f1 l[j].f2 l[j].f3 l[j].f4 (b - acc)) (fun k => sift_size.mono _ _ _ _ _ _ k) (Nat.le_max_right k1 k2) e1
      rw [e2, Option.bind_some]
      have hi : wrap64 ((j : Int) + 1) = ((j + 1 : Nat) : Int) := by rw [w64 (by omega) (by omega)]; rfl
      rw [hi]
      by_cases hc : (cnt n l[j] : Int) ≤ b - acc
      · rw [if_pos hc, w64 (by omega) (by omega)]
        have e3 := hk1 b (acc + cnt n l[j]) h0 h1 (by omega) (by omega)
        have e4 := up (f := fun k => sift_size.l0 k b (acc + cnt n l[j]) l (l.length : Int) ((j + 1 : Nat) : Int)) (fun k => (sift_size.mono_l k).2 _ _ _ _ _) (Nat.le_max_left k1 k2) e3
        rw [e4]
        congr 1
        split <;> split <;> omega
      · rw [if_neg hc, w64 (by omega) (by omega)]
        have e3 := hk1 b (acc + (b - acc + 1)) h0 h1 (by omega) (by omega)
        have e4 := up (f := fun k => sift_size.l0 k b (acc + (b - acc + 1)) l (l.length : Int) ((j + 1 : Nat) : Int)) (fun k => (sift_size.mono_l k).2 _ _ _ _ _) (Nat.le_max_left k1 k2) e3
        rw [e4]
        congr 1
        rw [if_neg (by omega), if_neg (by omega)]

/-- sift.size answers the number of terms, at most one more than the bound. -/
theorem size_is : ∀ n s, v24n n s → ∃ k, ∀ b : Int, 0 ≤ b → b ≤ 300 → sift_size.f k s.f0 s.f1 s.f2 s.f3 s.f4 b = some (if (cnt n s : Int) ≤ b then (cnt n s : Int) else b + 1)
  | 0, _, h => h.elim
  | n + 1, s, h => by
    unfold v24n at h
    obtain ⟨_, _, _, _, h5, h6⟩ := h
    obtain ⟨k, hk⟩ := size_loop n s.f4 (by omega) (fun y hy => size_is n y (h6 y hy)) s.f4.length 0 (by omega)
    refine ⟨k + 1, fun b h0 h1 => ?_⟩
    have e := hk b 1 h0 h1 (by omega) (by omega)
    rw [sift_size.f]
    refine Eq.trans e ?_
    simp only [List.drop_zero, cnt]
    congr 1
theorem dep_le : ∀ n s, dep n s ≤ cnt n s
  | 0, _ => Nat.le_refl _
  | n + 1, s => by
    simp only [dep, cnt]
    have h : ∀ l : List S24, (l.map (dep n)).foldr max 0 ≤ (l.map (cnt n)).sum := by
      intro l
      induction l with
      | nil => simp
      | cons x r ih =>
        have := dep_le n x
        simp only [List.map_cons, List.foldr_cons, List.sum_cons]
        omega
    have := h s.f4
    omega
theorem deep_loop (n : Nat) (l : List S24) (hl : l.length < 4611686018427387904) (ih : ∀ y ∈ l, cnt n y ≤ 300 → ∃ k, sift_deep.f k y.f0 y.f1 y.f2 y.f3 y.f4 = some (dep n y : Int)) :
    ∀ m j, j + m = l.length → ((l.drop j).map (cnt n)).sum ≤ 300 → ∃ k, ∀ acc : Nat, acc ≤ 300 →
      sift_deep.l0 k (acc : Int) l (l.length : Int) (j : Int) = some ((max acc (((l.drop j).map (dep n)).foldr max 0) + 1 : Nat) : Int)
  | 0, j, hj, _ => ⟨1, fun acc h0 => by
      have hd : l.drop j = [] := List.drop_eq_nil_of_le (by omega)
      rw [sift_deep.l0, if_neg (by omega), hd, w64 (by omega) (by omega)]
      simp⟩
  | m + 1, j, hj, hs => by
    have hjl : j < l.length := by omega
    have hd : l.drop j = l[j] :: l.drop (j + 1) := List.drop_eq_getElem_cons hjl
    rw [hd] at hs ⊢
    simp only [List.map_cons, List.sum_cons, List.foldr_cons] at hs ⊢
    obtain ⟨k1, hk1⟩ := deep_loop n l hl ih m (j + 1) (by omega) (by omega)
    obtain ⟨k2, hk2⟩ := ih l[j] (List.getElem_mem hjl) (by omega)
    refine ⟨max k1 k2 + 1, fun acc h0 => ?_⟩
    rw [sift_deep.l0, if_pos (by omega), if_pos (by omega), if_pos (by omega)]
    simp only [rd_T24_at hjl]
    have e2 := up (f := fun k => sift_deep.f k l[j].f0 l[j].f1 l[j].f2 l[j].f3 l[j].f4) (fun k => sift_deep.mono _ _ _ _ _ k) (Nat.le_max_right k1 k2) hk2
    rw [e2, Option.bind_some]
    have hi : wrap64 ((j : Int) + 1) = ((j + 1 : Nat) : Int) := by rw [w64 (by omega) (by omega)]; rfl
    have hdl := dep_le n l[j]
    have hm : mx (acc : Int) (dep n l[j] : Int) = ((max acc (dep n l[j]) : Nat) : Int) := by unfold mx; split <;> omega
    rw [hi, hm]
    have e4 := up (f := fun k => sift_deep.l0 k ((max acc (dep n l[j]) : Nat) : Int) l (l.length : Int) ((j + 1 : Nat) : Int)) (fun k => (sift_deep.mono_l k).2 _ _ _ _) (Nat.le_max_left k1 k2) (hk1 _ (by omega))
    rw [e4]
    congr 2
    omega
/-- deep answers the depth. -/
theorem deep_is : ∀ n s, v24n n s → cnt n s ≤ 300 → ∃ k, sift_deep.f k s.f0 s.f1 s.f2 s.f3 s.f4 = some (dep n s : Int)
  | 0, _, h, _ => h.elim
  | n + 1, s, h, hc => by
    unfold v24n at h
    obtain ⟨_, _, _, _, h5, h6⟩ := h
    simp only [cnt] at hc
    obtain ⟨k, hk⟩ := deep_loop n s.f4 (by omega) (fun y hy hc => deep_is n y (h6 y hy) hc) s.f4.length 0 (by omega) (by simpa using (by omega : (s.f4.map (cnt n)).sum ≤ 300))
    refine ⟨k + 1, ?_⟩
    have e := hk 0 (by omega)
    rw [sift_deep.f]
    refine Eq.trans e ?_
    simp only [List.drop_zero, dep]
    congr 2
    omega
end Pure
end Go.Proofs.YtlkllccbcfhekaaDoor.Sift
