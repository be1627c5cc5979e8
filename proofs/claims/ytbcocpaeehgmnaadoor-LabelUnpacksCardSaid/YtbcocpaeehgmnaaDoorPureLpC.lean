/- Names and their labels, for the packing law. -/
import Derived.Test.YtbcocpaeehgmnaaDoorPureLpB
namespace Go.Proofs.YtbcocpaeehgmnaaDoor.Pure
open Go.RowKit Go.Proofs.YtbcocpaeehgmnaaDoor.Lp Go.Proofs.YtbcocpaeehgmnaaDoor.Runes Go.Proofs.YtbcocpaeehgmnaaDoorW.PrintWords Go.Proofs.YtbcocpaeehgmnaaDoorW.PrintLast

theorem labels_facts (L : List UInt8) : (labelsL L).1.length ≤ 8 ∧ ∀ s ∈ (labelsL L).1, s.length ≤ 100 := by
  unfold labelsL
  repeat' split
  all_goals first | (exact ⟨by simp, fun s hs => by cases hs⟩) | skip
  rename_i h1 h2 h3 h4 h5
  refine ⟨by simp only []; omega, fun s hs => ?_⟩
  have h := cutL_piece L.dropLast s hs
  have h6 : L.dropLast.length ≤ 80 := by rw [List.length_dropLast]; omega
  omega

def flat (l : List (List UInt8)) : List UInt8 := (l.map (· ++ [46])).flatten
theorem flat_cons (a : List UInt8) (l : List (List UInt8)) : flat (a :: l) = a ++ 46 :: flat l := by simp [flat]
theorem flat_len (l : List (List UInt8)) (h : ∀ s ∈ l, s.length ≤ 100) : (flat l).length ≤ l.length * 101 := by
  induction l with
  | nil => simp [flat]
  | cons a l ih =>
    have h1 := ih (fun s hs => h s (List.mem_cons_of_mem _ hs))
    have h2 := h a List.mem_cons_self
    rw [flat_cons, List.length_append, List.length_cons, List.length_cons]
    omega
theorem tail_flat (r : List (List UInt8)) : Lib.joinTail [46] r ++ [46] = 46 :: flat r := by
  induction r with
  | nil => rfl
  | cons a r ih =>
    have e1 : Lib.joinTail [46] (a :: r) = 46 :: (a ++ Lib.joinTail [46] r) := by simp [Lib.joinTail]
    have e2 : flat (a :: r) = a ++ 46 :: flat r := by simp [flat]
    rw [e1, e2, ← ih]
    simp
theorem join_flat (l : List (List UInt8)) (h : l ≠ []) : Lib.join l [46] ++ [46] = flat l := by
  cases l with
  | nil => exact absurd rfl h
  | cons a r =>
    have e2 : flat (a :: r) = a ++ 46 :: flat r := by simp [flat]
    rw [Lib.join_cons, List.append_assoc, tail_flat, e2]

/-- The name with the given labels. -/
def nameL (l : List (List UInt8)) : List UInt8 := if l = [] then [46] else flat l

theorem join_at (l : List (List UInt8)) (hl : l.length ≤ 1000) (hs : ∀ s ∈ l, s.length ≤ 100) : label_join.f (l.map mk) = some (mk (nameL l)) := by
  unfold label_join.f nameL
  rw [List.length_map]
  by_cases h : l = []
  · rw [if_pos h, h]
    rfl
  · have h0 : l.length ≠ 0 := fun e => h (List.eq_nil_of_length_eq_zero e)
    have e : (l.map mk).map (·.data.toList) = l := by
      rw [List.map_map]
      exact (List.map_congr_left (g := id) fun x _ => rfl).trans (List.map_id l)
    have e46 : (⟨#[46]⟩ : ByteArray).data.toList = [46] := rfl
    have hf := flat_len l hs
    have hj := join_flat l h
    have hjl : (Lib.join l [46]).length + 1 = (flat l).length := by rw [← hj]; simp
    have hJ : strings_Join.f (l.map mk) (⟨#[46]⟩ : ByteArray) = some (mk (Lib.join l [46])) := by
      unfold strings_Join.f
      rw [e, e46, List.length_map, if_pos ⟨by omega, by omega⟩]
      rfl
    rw [if_neg (by omega), if_neg h, hJ, Option.bind_some, mk_size, if_pos (by omega), ← hj, ← mk_append]
    rfl

theorem nameOf_runs (l : List (List UInt8)) (hl : l.length ≤ 1000) (hs : ∀ s ∈ l, s.length ≤ 100) : ∀ (d i k : Nat) (acc : List UInt8), i + d = l.length → acc.length ≤ i * 101 → d + 1 ≤ k →
    patchbayref4_NameOf.l0 k (mk acc) (l.map mk) (l.length : Int) (i : Int) = some (mk (acc ++ flat (l.drop i))) := by
  intro d
  induction d with
  | zero =>
    intro i k acc hi _ hk
    obtain ⟨k, rfl⟩ : ∃ m, k = m + 1 := ⟨k - 1, by omega⟩
    rw [patchbayref4_NameOf.l0, if_neg (by omega), List.drop_eq_nil_of_le (by omega)]
    simp [flat]
  | succ d ih =>
    intro i k acc hi ha hk
    obtain ⟨k, rfl⟩ : ∃ m, k = m + 1 := ⟨k - 1, by omega⟩
    have hlt : i < l.length := by omega
    have hw : wrap64 ((i : Int) + 1) = ((i + 1 : Nat) : Int) := by unfold wrap64; omega
    have hsz := hs _ (List.getElem_mem hlt)
    have e46 : (⟨#[46]⟩ : ByteArray) = mk [46] := rfl
    rw [patchbayref4_NameOf.l0, if_pos (by omega), if_pos (by omega), if_pos (by rw [List.length_map]; omega), rd_at l i hlt, e46, mk_append, mk_append, hw, mk_size, mk_size, mk_size, if_pos (by omega), List.length_append, List.length_singleton, if_pos (by omega)]
    rw [ih (i + 1) k _ (by omega) (by simp; omega) (by omega), List.drop_eq_getElem_cons hlt]
    rw [flat_cons]
    simp
theorem nameOf_at (l : List (List UInt8)) (hl : l.length ≤ 1000) (hs : ∀ s ∈ l, s.length ≤ 100) (k : Nat) (hk : l.length + 1 ≤ k) : patchbayref4_NameOf.f k (l.map mk) = some (mk (nameL l)) := by
  unfold patchbayref4_NameOf.f nameL
  rw [List.length_map]
  by_cases h : l = []
  · rw [if_pos h, h]
    rfl
  · have h0 : l.length ≠ 0 := fun e => h (List.eq_nil_of_length_eq_zero e)
    rw [if_neg (by omega), if_neg h]
    exact nameOf_runs l hl hs l.length 0 k [] (by omega) (by simp) hk

theorem flat_append (a b : List (List UInt8)) : flat (a ++ b) = flat a ++ flat b := by simp [flat]
theorem flat_glue (b : UInt8) (l : List (List UInt8)) (h : l ≠ []) : flat (glue [b] l) = b :: flat l := by
  cases l with
  | nil => exact absurd rfl h
  | cons a l => rw [glue, flat_cons, flat_cons]; rfl
theorem flat_cut (N : List UInt8) : flat (cutL N) = N ++ [46] := by
  induction N with
  | nil => rfl
  | cons b t ih =>
    unfold cutL
    split
    · rename_i h
      rw [flat_cons, ih, h]
      rfl
    · rw [flat_glue b _ (cutL_ne t), ih]
      rfl
theorem cut_clean (N : List UInt8) : ∀ s ∈ cutL N, ∀ x ∈ s, x ≠ 46 := by
  induction N with
  | nil => intro s hs x hx; simp [cutL] at hs; subst hs; cases hx
  | cons b t ih =>
    unfold cutL
    split
    · intro s hs x hx
      rcases List.mem_cons.1 hs with rfl | hs
      · cases hx
      · exact ih s hs x hx
    · rename_i hb
      cases hc : cutL t with
      | nil => exact absurd hc (cutL_ne t)
      | cons h r =>
        rw [hc] at ih
        intro s hs x hx
        rcases List.mem_cons.1 hs with rfl | hs
        · rcases List.mem_cons.1 hx with rfl | hx
          · exact hb
          · exact ih h List.mem_cons_self x hx
        · exact ih s (List.mem_cons_of_mem _ hs) x hx
theorem cut_flat (l : List (List UInt8)) (h : ∀ s ∈ l, ∀ x ∈ s, x ≠ 46) : cutL (flat l) = l ++ [[]] := by
  induction l with
  | nil => rfl
  | cons a l ih => rw [flat_cons, cutL_first a _ (h a List.mem_cons_self), ih (fun s hs => h s (List.mem_cons_of_mem _ hs))]; rfl
/-- What a valid name is. -/
theorem valid_name (A : List UInt8) (h : (labelsL A).2 = 0) : (A = [46] ∧ (labelsL A).1 = []) ∨ ((labelsL A).1 ≠ [] ∧ A = flat (labelsL A).1 ∧ A ≠ [46] ∧ ∀ s ∈ (labelsL A).1, ∀ x ∈ s, x ≠ 46) := by
  unfold labelsL at h ⊢
  by_cases c1 : A.length > 80
  · rw [if_pos c1] at h; cases h
  rw [if_neg c1] at h ⊢
  by_cases c2 : A = [46]
  · rw [if_pos c2]; exact .inl ⟨c2, rfl⟩
  rw [if_neg c2] at h ⊢
  cases c3 : (A.getLast? == some 46)
  · rw [c3] at h; cases h
  rw [c3] at h
  rw [if_pos rfl] at h ⊢
  obtain ⟨N, hN⟩ := List.getLast?_eq_some_iff.1 (eq_of_beq c3)
  subst hN
  rw [List.dropLast_concat] at h ⊢
  by_cases c4 : okAll 0 (cutL N) = true
  · rw [if_pos c4] at h ⊢
    by_cases c5 : (cutL N).length > 8
    · rw [if_pos c5] at h; cases h
    · rw [if_neg c5]
      exact .inr ⟨cutL_ne N, (flat_cut N).symm, c2, cut_clean N⟩
  · rw [if_neg c4] at h; cases h

theorem valid_short (A : List UInt8) (h : (labelsL A).2 = 0) : A.length ≤ 80 := by
  unfold labelsL at h
  by_cases c1 : A.length > 80
  · rw [if_pos c1] at h; cases h
  · omega

theorem flat_short (A : List UInt8) (h : (labelsL A).2 = 0) : (flat (labelsL A).1).length ≤ 80 := by
  rcases valid_name A h with ⟨_, h1⟩ | ⟨_, h1, _⟩
  · rw [h1]; simp [flat]
  · rw [← h1]; exact valid_short A h
end Go.Proofs.YtbcocpaeehgmnaaDoor.Pure
