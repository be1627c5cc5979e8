/- What slices.Grow answers at a slice that is nil: a slice of no elements, of the call's own. -/
import Derived.Test.YtkolbflmihfokaaMergex0
import Derived.Test.YtkolbflmihfokaaShelfG
namespace Go.Proofs.Ytkolbflmihfokaa.Merge
open Go.RowKit Go.Proofs.YtkolbflmihfokaaW.PrintWords Go.Proofs.YtkolbflmihfokaaW.PrintLast

theorem grow_info : (Try.prog.info? 26).map (fun i => (i.zero, i.size, i.bytes)) = some (some (.agg #[.int .i64 0, .int .i64 0, .int .i64 0, .bool false, .string ByteArray.empty]), 5, 48) := by kernel_rfl
def api_PcapSeen_93.f (l : List (S26)) (n : Int) : Option (List (S26)) := if l.length = 0 ∧ 0 ≤ n ∧ n ≤ 1000000 then some [] else none
theorem api_PcapSeen_93.calls (A0 : Option Addr) (c0 : Nat) (l0 : List (S26)) (a1 : Int) (r : List (S26)) (w : World) (hr0 : A0 = none) (hc0 : c0 ≤ l0.length) (h : api_PcapSeen_93.f l0 a1 = some r) :
    Calls Try.prog 93 #[.slice A0 l0.length c0, .int .i64 a1] w fun e w' => ∃ v0_ : Value, e = .returned v0_ ∧ Kd.R k26 26 w' w.heap.size (fun _ => True) v0_ r ∧ Below w.heap.size w w' := by
  unfold api_PcapSeen_93.f at h
  split at h
  · rename_i hh
    obtain ⟨hl, h0, h1⟩ := hh
    injection h with h
    subst h
    subst hr0
    obtain ⟨n, rfl⟩ := Int.eq_ofNat_of_zero_le h0
    obtain rfl : l0 = [] := List.length_eq_zero_iff.1 hl
    obtain rfl : c0 = 0 := by simpa using hc0
    by_cases hn : n = 0
    · subst hn
      refine (Any8.slices_Grow_room Try.growE none 0 0 0 w (by omega) (by omega) (by omega) (by omega)).mono ?_
      rintro e w' ⟨rfl, rfl⟩
      exact ⟨_, rfl, Kd.R_nil _ _ _ _ _, Below.refl _ _⟩
    · obtain ⟨i0, hi, hzz⟩ := Option.map_eq_some_iff.1 grow_info
      simp only [Prod.mk.injEq] at hzz
      obtain ⟨hz0, hz1, hz2⟩ := hzz
      refine (Any8.slices_Grow_grow Try.growE i0 _ hi hz0 (by rw [hz1]; decide) none 0 0 n [] w (by omega) (by omega) (by rw [hz2]; omega) (by omega) (by simp) (fun _ => rfl) (fun a ha => by cases ha)).mono ?_
      rintro e w' ⟨rfl, rfl⟩
      have hgc := grownCap_ge w (0 + n) 0 (Try.growE_ren.t 25)
      have hcm : grownCap w (0 + n) 0 (Try.growE_ren.t 25) ≤ maxLen := grownCap_le_maxLen w (0 + n) 0 _ (by simp only [maxLen]; omega)
      refine ⟨_, rfl, ⟨fun _ _ => trivial, [], ⟨rfl, .inr ⟨w.heap.size, _, _, rfl, Nat.le_refl _, heap_alloc_new w.drew _, Nat.zero_le _, hcm, ?_, rfl⟩⟩, Reps.none _ _⟩, (below_drew (Below.refl _ _)).alloc (Nat.le_refl _) _⟩
      · have hz1 : (.agg #[.int .i64 0, .int .i64 0, .int .i64 0, .bool false, .string ByteArray.empty] : Value).cells.size = 5 := rfl
        simp only [Array.size_append, List.size_toArray, size_zeroCells, hz1, List.length_nil]
        show _ = _ * 5
        omega
  · cases h

end Go.Proofs.Ytkolbflmihfokaa.Merge
