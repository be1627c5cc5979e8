/- The pure law of PcapChecks: both validations of a capture give the same error. -/
import Derived.Test.YtkolbflmihfokaaPPcapChecksx2
import Derived.Test.YtkolbflmihfokaaPPcapChecksV
namespace Go.Proofs.Ytkolbflmihfokaa.Pure
open Go.RowKit Go.Proofs.Ytkolbflmihfokaa.PPcapChecks Go.Proofs.YtkolbflmihfokaaW.PrintWords Go.Proofs.YtkolbflmihfokaaW.PrintLast

theorem faults_same (l : List S26) (hl : l.length ≤ 400) (d : Nat) : ∀ (i : Nat) (k : Nat) (last : Int), i + d = l.length → (i = 0 → last = 0) → (0 < i → last = (rd_T26 l ((i : Int) - 1)).f0) → 2 * d + 1 ≤ k →
    ∃ r, pcap_Check.l0 k last l (l.length : Int) i = some r ∧ patchbayref4_CaptureFault.l0 k l l (l.length : Int) i = some r := by
  induction d with
  | zero =>
    intro i k last hi _ _ hk
    obtain ⟨k, rfl⟩ : ∃ m, k = m + 1 := ⟨k - 1, by omega⟩
    refine ⟨0, ?_, ?_⟩
    · simp only [pcap_Check.l0]; rw [if_neg (by omega)]
    · simp only [patchbayref4_CaptureFault.l0]; rw [if_neg (by omega)]
  | succ d ih =>
    intro i k last hi h0 h1 hk
    obtain ⟨k, rfl⟩ : ∃ m, k = m + 1 + 1 := ⟨k - 2, by omega⟩
    have hlt : (i : Int) < (l.length : Int) := by omega
    have hge : 0 ≤ (i : Int) := by omega
    simp only [pcap_Check.l0, patchbayref4_CaptureFault.l0, if_pos hlt, if_pos hge]
    generalize he : rd_T26 l (i : Int) = x
    by_cases c0 : x.f0 < 0
    · simp only [if_pos c0]
      exact ⟨10, by simp only [pcap_Check.j1, if_true], by simp only [patchbayref4_CaptureFault.j1, if_true]⟩
    simp only [if_neg c0]
    by_cases c1 : x.f0 > 1000000000
    · simp only [if_pos c1]
      exact ⟨10, by simp only [pcap_Check.j1, if_true], by simp only [patchbayref4_CaptureFault.j1, if_true]⟩
    simp only [if_neg c1]
    by_cases c2 : x.f1 < 0
    · simp only [if_pos c2]
      exact ⟨10, by simp only [pcap_Check.j1, if_true], by simp only [patchbayref4_CaptureFault.j1, if_true]⟩
    simp only [if_neg c2]
    by_cases c3 : x.f1 > 15
    · simp only [if_pos (show x.f1 ≥ 16 by omega), if_pos c3]
      exact ⟨10, by simp only [pcap_Check.j1, if_true], by simp only [patchbayref4_CaptureFault.j1, if_true]⟩
    simp only [if_neg (show ¬ x.f1 ≥ 16 by omega), if_neg c3]
    by_cases c4 : x.f2 < 0
    · simp only [if_pos c4]
      exact ⟨10, by simp only [pcap_Check.j1, if_true], by simp only [patchbayref4_CaptureFault.j1, if_true]⟩
    simp only [if_neg c4]
    simp only [pcap_Check.j1, patchbayref4_CaptureFault.j1, decide_eq_true_eq]
    by_cases c5 : x.f2 > 7
    · simp only [if_pos (show x.f2 ≥ 8 by omega), if_pos c5]
      exact ⟨10, rfl, rfl⟩
    simp only [if_neg (show ¬ x.f2 ≥ 8 by omega), if_neg c5]
    by_cases c6 : (x.f4.size : Int) > 2000
    · simp only [if_pos c6]
      exact ⟨2, rfl, rfl⟩
    simp only [if_neg c6]
    have hw : wrap64 ((i : Int) + 1) = ((i + 1 : Nat) : Int) := by unfold wrap64; omega
    rw [hw]
    have hn : x.f0 = (rd_T26 l (((i + 1 : Nat) : Int) - 1)).f0 := by
      rw [show ((i + 1 : Nat) : Int) - 1 = (i : Int) by omega, he]
    by_cases c7 : (i : Int) > 0
    · have hw1 : wrap64 ((i : Int) - 1) = (i : Int) - 1 := by unfold wrap64; omega
      simp only [if_pos c7, hw1, if_pos (show 0 ≤ (i : Int) - 1 by omega), if_pos (show (i : Int) - 1 < (l.length : Int) by omega)]
      have hlast := h1 (by omega)
      rw [← hlast]
      by_cases c8 : x.f0 < last
      · simp only [if_pos c8]
        exact ⟨3, rfl, rfl⟩
      · simp only [if_neg c8]
        exact ih (i + 1) k x.f0 (by omega) (fun h => by omega) (fun _ => hn) (by omega)
    · have hlast := h0 (by omega)
      simp only [if_neg c7, if_neg (show ¬ x.f0 < last by omega)]
      exact ih (i + 1) k x.f0 (by omega) (fun h => by omega) (fun _ => hn) (by omega)

/-- Both validations of a capture. -/
theorem check_same (l : List S26) (k : Nat) (hk : 801 ≤ k) : ∃ r, pcap_Check.f k l = some r ∧ patchbayref4_CaptureFault.f k l = some r := by
  unfold pcap_Check.f patchbayref4_CaptureFault.f
  by_cases c : (l.length : Int) > 400
  · rw [if_pos c, if_pos c]
    exact ⟨2, rfl, rfl⟩
  · rw [if_neg c, if_neg c]
    exact faults_same l (by omega) l.length 0 k 0 (by omega) (fun _ => rfl) (fun h => by omega) (by omega)

theorem check_one (k : Nat) (hk : 801 ≤ k) : pcap_Check.f k ([(⟨(-1), 0, 0, false, (⟨#[]⟩ : ByteArray)⟩ : S26)] : List S26) = some 10 := by
  obtain ⟨k, rfl⟩ : ∃ m, k = m + 1 + 1 := ⟨k - 2, by omega⟩
  rfl

theorem PcapChecks (l : List S26) (_ : l.length * 48 ≤ 140737488351232 ∧ ∀ x ∈ l, v26 x) : ∃ k, patchbaylaw4_PcapChecks.f k l = some true := by
  refine ⟨801, ?_⟩
  unfold patchbaylaw4_PcapChecks.f
  obtain ⟨r, h1, h2⟩ := check_same l 801 (Nat.le_refl _)
  rw [check_one 801 (Nat.le_refl _), h1, h2]
  simp

end Go.Proofs.Ytkolbflmihfokaa.Pure
