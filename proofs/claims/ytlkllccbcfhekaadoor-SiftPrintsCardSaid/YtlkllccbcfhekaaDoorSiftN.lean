/- The variable sift.numbers as it was laid. -/
import Derived.Test.YtlkllccbcfhekaaDoorXNums
import Derived.Test.YtlkllccbcfhekaaDoorRK
import Derived.Test.YtlkllccbcfhekaaDoorRows
import Derived.Deep.Slices
import Derived.LaidMore
import Derived.Test.YtlkllccbcfhekaaDoorXItoa
import Derived.Lib.LaidTab
namespace Go.Proofs.YtlkllccbcfhekaaDoor.Sift
open Go.ChangeShapes Go.WideShapes Go.RowKit Go.Proofs.YtlkllccbcfhekaaDoorW.PrintWords Go.Proofs.YtlkllccbcfhekaaDoorW.RK

theorem nums_of {W : World} (h : laidMetH Tryd.prog Rows.siftPrintsRow.laid W) : Nums W := by
  rw [MakeChecks.laidMetH_plain _ _ _ (by kernel_rfl)] at h
  obtain ⟨ps, hL, hnd, hfz⟩ := h
  obtain ⟨_, _, _, _, _, _, _, _, _, _, hL, _⟩ := hL
  obtain ⟨_, _, _, _, _, _, _, _, _, _, hL, _⟩ := hL
  obtain ⟨_, _, _, _, _, _, _, _, _, _, hL, _⟩ := hL
  obtain ⟨g, t, cs, fuel, p, q, hg, ht, hv, htr, _, _⟩ := hL
  obtain rfl : g = 0 := Option.some.inj (hg.symm.trans (by kernel_rfl))
  obtain rfl : t = 71 := Option.some.inj (ht.symm.trans (by kernel_rfl))
  have hcell0 := Go.World.var?_cell hg hv 0
  rcases Go.Deep.open_slice1 Tryd.underlying71 (by kernel_rfl) htr with ⟨_, h0⟩ | ⟨a, len, cap, m, n, V, D, Pl, hcs, hb, hl, hm, hmm, hx, hel⟩
  · exact absurd (congrArg Prod.fst h0) (by intro h; cases h)
  · have hx1 := congrArg Prod.fst hx
    simp only [Rows.laid_patchbay_sift_numbers] at hx1
    injection hx1 with hx1 hx2
    have hlen : len = 15 := by simpa using (congrArg List.length hx1).symm
    subst hlen
    obtain rfl : cs = #[.slice (some a) 15 cap] := by cases cs; simpa using hcs
    have hmm2 : m = cap := by simpa using hmm
    refine ⟨?_, some a, cap, ?_, ?_, hl⟩
    · exact World.block_lt_of_cell? W _ (by simpa using hcell0)
    · exact (by simpa using hcell0 : W.cell? ⟨0, 0, none⟩ = some (.slice (some a) 15 cap))
    · refine ⟨rfl, by unfold maxLen at hm; show 15 ≤ _; omega, fun _ => ⟨a, rfl, fun j y hj => ?_⟩⟩
      have hj15 : j < 15 := (List.getElem?_eq_some_iff.1 hj).1
      obtain ⟨hc, hd⟩ := hel j (by have := hl; split at hmm <;> omega)
      obtain ⟨s, hs1, hs2, _⟩ := DataW.trod_string Tryd.underlying9 hd
      have e1 : ((List.range 15).map D)[j]? = some (D j) := by simp [hj15]
      have e2 : (numbersL.map fun y => (DataW.lit (Lit.string y.data.toList) : DataW Unit))[j]? = some (.lit (.string y.data.toList)) := by simp [hj]
      have e3 : (numbersL.map fun y => (DataW.lit (Lit.string y.data.toList) : DataW Unit)) = (List.range 15).map D := hx1
      rw [e3, e1] at e2
      have e4 : D j = .lit (.string s.data.toList) := congrArg Prod.fst hs2
      have e5 := (Option.some.inj e2).symm.trans e4
      injection e5 with e5
      injection e5 with e5
      have hsy : s = y := by
        cases s; cases y
        simp only at e5
        rw [Array.ext' e5.symm]
      subst hsy
      refine ⟨[.string s], rfl, rfl, fun i u hu => ?_⟩
      cases i with
      | zero =>
        have hv1 : V j = .string s := by simpa using hs1
        have : u = .string s := by simpa using hu.symm
        subst this
        have h9 : j * Kd.string.sz + 0 = j := Nat.mul_one j
        rw [h9, hc, hv1]
      | succ i => simp at hu
theorem pows_of {W : World} (h : laidMetH Tryd.prog Rows.siftPrintsRow.laid W) : Pows W := by
  rw [MakeChecks.laidMetH_plain _ _ _ (by kernel_rfl)] at h
  obtain ⟨ps, hL, hnd, hfz⟩ := h
  obtain ⟨_, _, _, _, _, _, _, _, _, _, hL, _⟩ := hL
  obtain ⟨_, _, _, _, _, _, _, _, _, _, hL, _⟩ := hL
  obtain ⟨g', t', cs, fuel, p, q, hg', ht', hvar, hd, _, _⟩ := hL
  obtain rfl : t' = 135 := Option.some.inj (ht'.symm.trans ((congrArg (fun g => (Tryd.prog.globals[g]?).map (·.type)) (Option.some.inj (hg'.symm.trans (show Tryd.prog.globalNamed "internal/strconv.uint64pow10" = some 1 by kernel_rfl)))).trans (by kernel_rfl)))
  unfold Pows Lib.TabIs
  rw [hvar, ← Lib.cells_of_tab (zs := Lib.pow10Tab) Tryd.underlying135 Tryd.underlying126 (by kernel_rfl) (by kernel_rfl) hd]
end Go.Proofs.YtlkllccbcfhekaaDoor.Sift
