/- The pure law of LabelParents. -/
import Derived.Test.YtbcocpaeehgmnaaDoorPureLabelB
import Derived.Test.YtbcocpaeehgmnaaDoorLabelx6
namespace Go.Proofs.YtbcocpaeehgmnaaDoor.Pure
open Go.RowKit Go.Proofs.YtbcocpaeehgmnaaDoor.Label Go.Proofs.YtbcocpaeehgmnaaDoor.Runes Go.Proofs.YtbcocpaeehgmnaaDoorW.PrintWords Go.Proofs.YtbcocpaeehgmnaaDoorW.PrintLast

theorem labels_facts (L : List UInt8) : (labelsL L).1.length ≤ 8 ∧ ∀ s ∈ (labelsL L).1, s.length ≤ 100 := by
  unfold labelsL
  repeat' split
  all_goals first | (exact ⟨by simp, fun s hs => by cases hs⟩) | skip
  rename_i h1 h2 h3 h4 h5
  refine ⟨by simp only []; omega, fun s hs => ?_⟩
  have h := cutL_piece L.dropLast s hs
  have h6 : L.dropLast.length ≤ 80 := by rw [List.length_dropLast]; omega
  omega

def flat (l : List (List UInt8)) : List UInt8 := (l.map (· ++ [46])).flatten
theorem flat_cons (a : List UInt8) (l : List (List UInt8)) : flat (a :: l) = a ++ 46 :: flat l := by simp [flat]
theorem flat_len (l : List (List UInt8)) (h : ∀ s ∈ l, s.length ≤ 100) : (flat l).length ≤ l.length * 101 := by
  induction l with
  | nil => simp [flat]
  | cons a l ih =>
    have h1 := ih (fun s hs => h s (List.mem_cons_of_mem _ hs))
    have h2 := h a List.mem_cons_self
    rw [flat_cons, List.length_append, List.length_cons, List.length_cons]
    omega
theorem tail_flat (r : List (List UInt8)) : Lib.joinTail [46] r ++ [46] = 46 :: flat r := by
  induction r with
  | nil => rfl
  | cons a r ih =>
    have e1 : Lib.joinTail [46] (a :: r) = 46 :: (a ++ Lib.joinTail [46] r) := by simp [Lib.joinTail]
    have e2 : flat (a :: r) = a ++ 46 :: flat r := by simp [flat]
    rw [e1, e2, ← ih]
    simp
theorem join_flat (l : List (List UInt8)) (h : l ≠ []) : Lib.join l [46] ++ [46] = flat l := by
  cases l with
  | nil => exact absurd rfl h
  | cons a r =>
    have e2 : flat (a :: r) = a ++ 46 :: flat r := by simp [flat]
    rw [Lib.join_cons, List.append_assoc, tail_flat, e2]

/-- The name with the given labels. -/
def nameL (l : List (List UInt8)) : List UInt8 := if l = [] then [46] else flat l

theorem join_at (l : List (List UInt8)) (hl : l.length ≤ 1000) (hs : ∀ s ∈ l, s.length ≤ 100) : label_join.f (l.map mk) = some (mk (nameL l)) := by
  unfold label_join.f nameL
  rw [List.length_map]
  by_cases h : l = []
  · rw [if_pos h, h]
    rfl
  · have h0 : l.length ≠ 0 := fun e => h (List.eq_nil_of_length_eq_zero e)
    have e : (l.map mk).map (·.data.toList) = l := by
      rw [List.map_map]
      exact (List.map_congr_left (g := id) fun x _ => rfl).trans (List.map_id l)
    have e46 : (⟨#[46]⟩ : ByteArray).data.toList = [46] := rfl
    have hf := flat_len l hs
    have hj := join_flat l h
    have hjl : (Lib.join l [46]).length + 1 = (flat l).length := by rw [← hj]; simp
    have hJ : strings_Join.f (l.map mk) (⟨#[46]⟩ : ByteArray) = some (mk (Lib.join l [46])) := by
      unfold strings_Join.f
      rw [e, e46, List.length_map, if_pos ⟨by omega, by omega⟩]
      rfl
    rw [if_neg (by omega), if_neg h, hJ, Option.bind_some, mk_size, if_pos (by omega), ← hj, ← mk_append]
    rfl

theorem nameOf_runs (l : List (List UInt8)) (hl : l.length ≤ 1000) (hs : ∀ s ∈ l, s.length ≤ 100) : ∀ (d i k : Nat) (acc : List UInt8), i + d = l.length → acc.length ≤ i * 101 → d + 1 ≤ k →
    patchbayref4_NameOf.l0 k (mk acc) (l.map mk) (l.length : Int) (i : Int) = some (mk (acc ++ flat (l.drop i))) := by
  intro d
  induction d with
  | zero =>
    intro i k acc hi _ hk
    obtain ⟨k, rfl⟩ : ∃ m, k = m + 1 := ⟨k - 1, by omega⟩
    rw [patchbayref4_NameOf.l0, if_neg (by omega), List.drop_eq_nil_of_le (by omega)]
    simp [flat]
  | succ d ih =>
    intro i k acc hi ha hk
    obtain ⟨k, rfl⟩ : ∃ m, k = m + 1 := ⟨k - 1, by omega⟩
    have hlt : i < l.length := by omega
    have hw : wrap64 ((i : Int) + 1) = ((i + 1 : Nat) : Int) := by unfold wrap64; omega
    have hsz := hs _ (List.getElem_mem hlt)
    have e46 : (⟨#[46]⟩ : ByteArray) = mk [46] := rfl
    rw [patchbayref4_NameOf.l0, if_pos (by omega), if_pos (by omega), if_pos (by rw [List.length_map]; omega), rd_at l i hlt, e46, mk_append, mk_append, hw, mk_size, mk_size, mk_size, if_pos (by omega), List.length_append, List.length_singleton, if_pos (by omega)]
    rw [ih (i + 1) k _ (by omega) (by simp; omega) (by omega), List.drop_eq_getElem_cons hlt]
    rw [flat_cons]
    simp
theorem nameOf_at (l : List (List UInt8)) (hl : l.length ≤ 1000) (hs : ∀ s ∈ l, s.length ≤ 100) (k : Nat) (hk : l.length + 1 ≤ k) : patchbayref4_NameOf.f k (l.map mk) = some (mk (nameL l)) := by
  unfold patchbayref4_NameOf.f nameL
  rw [List.length_map]
  by_cases h : l = []
  · rw [if_pos h, h]
    rfl
  · have h0 : l.length ≠ 0 := fun e => h (List.eq_nil_of_length_eq_zero e)
    rw [if_neg (by omega), if_neg h]
    exact nameOf_runs l hl hs l.length 0 k [] (by omega) (by simp) hk

theorem parent_at (L : List UInt8) (k : Nat) (hk : 200 ≤ k) : label_Parent.f k (mk L) = some (if (labelsL L).2 = 0 then (if (labelsL L).1 = [] then (mk [], 4) else (mk (nameL ((labelsL L).1.drop 1)), 0)) else (mk [], (labelsL L).2)) := by
  unfold label_Parent.f
  obtain ⟨h1, h2⟩ := labels_facts L
  rw [labels_at L k hk, Option.bind_some]
  generalize (labelsL L).2 = e
  generalize (labelsL L).1 = l at h1 h2 ⊢
  show (if e = 0 then _ else _) = _
  by_cases c : e = 0
  · rw [if_pos c, if_pos c]
    simp only [List.length_map]
    by_cases h : l = []
    · rw [if_pos h, h]
      rfl
    · have h0 : l.length ≠ 0 := fun e => h (List.eq_nil_of_length_eq_zero e)
      rw [if_neg (by omega), if_neg h, if_pos (by omega), ← List.map_drop, join_at (l.drop 1) (by rw [List.length_drop]; omega) (fun s hs => h2 s (List.mem_of_mem_drop hs)), Option.bind_some]
  · rw [if_neg c, if_neg c]
    rfl

theorem LabelParents (a0 : ByteArray) (_ : a0.size ≤ 140737488351232) : ∃ k, patchbaylaw4_LabelParents.f k a0 = some true := by
  refine ⟨400, ?_⟩
  obtain ⟨L, rfl⟩ : ∃ L, a0 = mk L := ⟨_, (mk_of a0).symm⟩
  unfold patchbaylaw4_LabelParents.f
  have e46 : (⟨#[46]⟩ : ByteArray) = mk [46] := rfl
  have hd : labelsL [46] = ([], 0) := by decide +kernel
  obtain ⟨h1, h2⟩ := labels_facts L
  rw [e46, parent_at [46] 400 (by omega), hd, Option.bind_some]
  show (if (4 : Int) = 4 then _ else _) = _
  rw [if_pos rfl, parent_at L 400 (by omega), Option.bind_some, ref_at L 400 (by omega), Option.bind_some]
  generalize (labelsL L).2 = e
  generalize (labelsL L).1 = l at h1 h2 ⊢
  show (if e = 0 then _ else _) = _
  by_cases c : e = 0
  · rw [if_pos c, if_pos c]
    simp only [List.length_map]
    by_cases h : l = []
    · subst h
      rw [if_pos rfl]
      show patchbaylaw4_LabelParents.j0 (399 + 1) (mk []) 4 _ _ true = _
      rw [patchbaylaw4_LabelParents.j0, if_pos rfl, if_neg (by decide), if_pos rfl, mk_toList]
      rfl
    · have h0 : l.length ≠ 0 := fun e => h (List.eq_nil_of_length_eq_zero e)
      have hq : ((l.length : Int) == 0) = false := by simpa using h
      rw [if_neg h, hq]
      show patchbaylaw4_LabelParents.j0 (399 + 1) _ 0 _ _ false = _
      rw [patchbaylaw4_LabelParents.j0, if_neg Bool.false_ne_true, if_pos c, if_pos rfl, if_pos (by rw [List.length_map]; omega), ← List.map_drop, nameOf_at (l.drop 1) (by rw [List.length_drop]; omega) (fun s hs => h2 s (List.mem_of_mem_drop hs)) _ (by rw [List.length_drop]; omega), Option.bind_some]
      simp
  · rw [if_neg c, if_neg c]
    show patchbaylaw4_LabelParents.j0 (399 + 1) _ e _ e false = _
    rw [patchbaylaw4_LabelParents.j0, if_neg Bool.false_ne_true, if_neg c, if_pos rfl, mk_toList]
    rfl

end Go.Proofs.YtbcocpaeehgmnaaDoor.Pure
