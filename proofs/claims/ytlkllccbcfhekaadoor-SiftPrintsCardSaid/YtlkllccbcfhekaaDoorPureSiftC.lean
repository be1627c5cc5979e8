/- The names of the fields with numbers: the list of the code and the reference's text are one. -/
import Derived.Test.YtlkllccbcfhekaaDoorSiftx6
import Derived.Test.YtlkllccbcfhekaaDoorSiftx6
import Derived.Test.YtlkllccbcfhekaaDoorSiftx1
import Derived.Test.YtlkllccbcfhekaaDoorXNums
import Derived.Test.YtlkllccbcfhekaaDoorPureSiftA
namespace Go.Proofs.YtlkllccbcfhekaaDoor.Sift
open Go.RowKit Go.Proofs.YtlkllccbcfhekaaDoorW.PrintWords
namespace Pure
set_option maxRecDepth 100000

theorem fields_is : patchbayref4_SiftFields.f 200 = some numbersL := by kernel_rfl
theorem rd_at {l : List ByteArray} {j : Nat} (h : j < l.length) : rdOf ByteArray.empty l (j : Int) = l[j] := by
  simp [rdOf, List.getD, h]
theorem among_loop (l : List ByteArray) (a : ByteArray) (hl : l.length < 4611686018427387904) : ∀ m j, j + m = l.length → ∃ k, patchbayref4_Among.l0 k a l (l.length : Int) (j : Int) = some ((l.drop j).any (fun y => y.toList == a.toList))
  | 0, j, hj => ⟨1, by
      have hd : l.drop j = [] := List.drop_eq_nil_of_le (by omega)
      rw [patchbayref4_Among.l0, if_neg (by omega), hd]
      rfl⟩
  | m + 1, j, hj => by
    have hjl : j < l.length := by omega
    obtain ⟨k, hk⟩ := among_loop l a hl m (j + 1) (by omega)
    refine ⟨k + 1, ?_⟩
    have hd : l.drop j = l[j] :: l.drop (j + 1) := List.drop_eq_getElem_cons hjl
    rw [patchbayref4_Among.l0, if_pos (by omega), if_pos (by omega), if_pos (by omega), hd, rd_at hjl, List.any_cons]
    by_cases h : l[j].toList = a.toList
    · rw [if_pos h, beq_iff_eq.2 h]; rfl
    · have hi : wrap64 ((j : Int) + 1) = ((j + 1 : Nat) : Int) := by rw [w64 (by omega) (by omega)]; rfl
      rw [if_neg h, hi, hk, beq_eq_false_iff_ne.2 h, Bool.false_or]
theorem index_loop (l : List ByteArray) (a : ByteArray) (hl : l.length < 4611686018427387904) : ∀ m j, j + m = l.length → ∃ k i, slices_Index_string_string.l0 k l a (l.length : Int) (j : Int) = some i ∧ decide (i ≥ 0) = (l.drop j).any (fun y => y.toList == a.toList)
  | 0, j, hj => ⟨1, -1, by
      have hd : l.drop j = [] := List.drop_eq_nil_of_le (by omega)
      rw [slices_Index_string_string.l0, if_neg (by omega), hd]
      exact ⟨rfl, rfl⟩⟩
  | m + 1, j, hj => by
    have hjl : j < l.length := by omega
    obtain ⟨k, i, hk, he⟩ := index_loop l a hl m (j + 1) (by omega)
    have hd : l.drop j = l[j] :: l.drop (j + 1) := List.drop_eq_getElem_cons hjl
    by_cases h : a.toList = l[j].toList
    · refine ⟨1, j, ?_, ?_⟩
      · rw [slices_Index_string_string.l0, if_pos (by omega), if_pos (by omega), if_pos (by omega), rd_at hjl, if_pos h]
      · rw [hd, List.any_cons, beq_iff_eq.2 h.symm, Bool.true_or]
        exact decide_eq_true (by omega)
    · refine ⟨k + 1, i, ?_, ?_⟩
      · have hi : wrap64 ((j : Int) + 1) = ((j + 1 : Nat) : Int) := by rw [w64 (by omega) (by omega)]; rfl
        rw [slices_Index_string_string.l0, if_pos (by omega), if_pos (by omega), if_pos (by omega), rd_at hjl, if_neg h, hi, hk]
      · rw [hd, List.any_cons, beq_eq_false_iff_ne.2 (fun h' => h h'.symm), Bool.false_or, he]
def isNum (a : ByteArray) : Bool := numbersL.any (fun y => y.toList == a.toList)
theorem isNumber_is (a : ByteArray) : ∃ k, sift_isNumber.f k a = some (isNum a) := by
  obtain ⟨k, i, hk, he⟩ := index_loop numbersL a (by decide) numbersL.length 0 (by omega)
  refine ⟨k, ?_⟩
  unfold sift_isNumber.f slices_Contains_string_string.f slices_Index_string_string.f
  refine (congrArg (Option.bind · _) hk).trans ?_
  rw [Option.bind_some, he]
  rfl
theorem among_is (a : ByteArray) : ∃ k, patchbayref4_Among.f k numbersL a = some (isNum a) := by
  obtain ⟨k, hk⟩ := among_loop numbersL a (by decide) numbersL.length 0 (by omega)
  exact ⟨k, hk⟩
end Pure
end Go.Proofs.YtlkllccbcfhekaaDoor.Sift
