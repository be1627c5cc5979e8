/- The law of sift.Print, in plain words. -/
import Derived.Test.YtlkllccbcfhekaaDoorSiftx10
import Derived.Test.YtlkllccbcfhekaaDoorSiftx6
import Derived.Test.YtlkllccbcfhekaaDoorPureSiftG
import Derived.Test.YtlkllccbcfhekaaDoorPureSiftR
namespace Go.Proofs.YtlkllccbcfhekaaDoor.Sift
open Go.RowKit Go.Proofs.YtlkllccbcfhekaaDoorW.PrintWords
namespace Pure
set_option maxRecDepth 100000

theorem print_empty : sift_Print.f 30 (⟨#[]⟩ : ByteArray) (⟨#[]⟩ : ByteArray) 0 0 ([] : List S24) = some (⟨#[]⟩, 3) := by
  unfold sift_Print.f
  rw [empty_is, Option.bind_some, if_neg (by decide)]
def said (n : Nat) (s : S24) : ByteArray × Int := if ans n s = 0 then (if ((txt n s 0).size : Int) > 300 then ((⟨#[]⟩ : ByteArray), 5) else (txt n s 0, 0)) else ((⟨#[]⟩ : ByteArray), ans n s)
theorem ans_ok {n : Nat} {s : S24} (h : ans n s = 0) : frm n s = true ∧ cnt n s ≤ 300 := by
  unfold ans at h
  split at h
  · cases h
  · split at h
    · rename_i hf; exact ⟨hf, by omega⟩
    · cases h
theorem print_is (n : Nat) (s : S24) (h : v24n n s) : ∃ k, sift_Print.f k s.f0 s.f1 s.f2 s.f3 s.f4 = some (said n s) := by
  obtain ⟨k1, h1⟩ := code_is n s h
  by_cases ha : ans n s = 0
  · obtain ⟨hf, hc⟩ := ans_ok ha
    obtain ⟨k2, h2⟩ := printed_is n s hf hc
    refine ⟨max k1 k2, ?_⟩
    have e1 := up (f := fun k => sift_Check.f k s.f0 s.f1 s.f2 s.f3 s.f4) (fun k => sift_Check.mono _ _ _ _ _ k) (Nat.le_max_left k1 k2) h1
    have e2 := printed_up (Nat.le_max_right k1 k2) (h2 0 (by omega))
    unfold sift_Print.f said
    rw [e1, Option.bind_some, if_pos ha, e2, Option.bind_some, if_pos ha]
    split <;> rfl
  · refine ⟨k1, ?_⟩
    unfold sift_Print.f said
    rw [h1, Option.bind_some, if_neg ha, if_neg ha]
theorem SiftPrints (s : S24) (hv : v24 s) : ∃ k, patchbaylaw4_SiftPrints.f k s.f0 s.f1 s.f2 s.f3 s.f4 = some true := by
  obtain ⟨n, h⟩ := hv
  obtain ⟨k1, h1⟩ := print_is n s h
  obtain ⟨k2, h2⟩ := fault_is n s h
  have hstr : ∃ k3, ans n s = 0 → patchbayref4_SiftString.f k3 s.f0 s.f1 s.f2 s.f3 s.f4 0 = some (txt n s 0) := by
    by_cases ha : ans n s = 0
    · obtain ⟨hf, hc⟩ := ans_ok ha
      obtain ⟨k3, h3⟩ := string_is n s hf hc
      exact ⟨k3, fun _ => h3 0⟩
    · exact ⟨0, fun h => absurd h ha⟩
  obtain ⟨k3, h3⟩ := hstr
  obtain ⟨K, q1, q2, q3, q4⟩ : ∃ K, k1 ≤ K ∧ k2 ≤ K ∧ k3 ≤ K ∧ 30 ≤ K := ⟨k1 + k2 + k3 + 30, by omega, by omega, by omega, by omega⟩
  have e1 := up (f := fun k => sift_Print.f k s.f0 s.f1 s.f2 s.f3 s.f4) (fun k => sift_Print.mono _ _ _ _ _ k) q1 h1
  have e2 := up (f := fun k => patchbayref4_SiftFault.f k s.f0 s.f1 s.f2 s.f3 s.f4) (fun k => patchbayref4_SiftFault.mono _ _ _ _ _ k) q2 h2
  have e4 := up (f := fun k => sift_Print.f k (⟨#[]⟩ : ByteArray) (⟨#[]⟩ : ByteArray) 0 0 ([] : List S24)) (fun k => sift_Print.mono _ _ _ _ _ k) q4 print_empty
  refine ⟨K, ?_⟩
  unfold patchbaylaw4_SiftPrints.f
  rw [e4, Option.bind_some, if_pos rfl, e1, Option.bind_some, e2, Option.bind_some]
  unfold said
  by_cases ha : ans n s = 0
  · rw [if_pos ha, string_up q3 (h3 ha), Option.bind_some, if_pos ha]
    by_cases hz : ((txt n s 0).size : Int) > 300
    · rw [if_pos hz, if_pos hz, if_pos rfl]; simp [ByteArray.toList_eq]
    · rw [if_neg hz, if_neg hz, if_pos rfl]; simp
  · rw [if_neg ha, if_neg ha, if_pos rfl]; simp [ByteArray.toList_eq]
end Pure
end Go.Proofs.YtlkllccbcfhekaaDoor.Sift
