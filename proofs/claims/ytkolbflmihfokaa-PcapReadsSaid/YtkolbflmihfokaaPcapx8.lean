/- Printed by a program of this seat's session: what the Go functions compute, and that they do. -/
import Derived.Test.YtkolbflmihfokaaPcapx0
import Derived.Test.YtkolbflmihfokaaPcapx4
import Derived.Test.YtkolbflmihfokaaPcapx7
namespace Go.Proofs.Ytkolbflmihfokaa.Pcap
open Go.RowKit Go.Proofs.YtkolbflmihfokaaW.PrintWords Go.Proofs.YtkolbflmihfokaaW.PrintLast Go.Proofs.YtkolbflmihfokaaW.PrintMore
attribute [local go_sem] max2_int min2_int max_two min_two max_three min_three max_four min_four   -- for this text's walks alone
set_option linter.unusedVariables false
set_option linter.unusedSimpArgs false
set_option maxRecDepth 100000

/-! ### patchbayref4_CaptureFront: function 22 -/
mutual
def patchbayref4_CaptureFront.j0 : Nat → ByteArray → Bool → Option ((List (S26)) × Int)
  | 0, _, _ => none
  | k + 1, x0, x17 => if x17 = true then (some (([] : List (S26)), 0)) else (patchbayref4_CaptureFront.l0 k x0 ([] : List (S26)) 4 0)
def patchbayref4_CaptureFront.l0 : Nat → ByteArray → List (S26) → Int → Int → Option ((List (S26)) × Int)
  | 0, _, _, _, _ => none
  | k + 1, x0, x4, x5, x6 => if (wrap64 (x5 + 12)) ≤ (x0.size : Int) then (patchbayref4_CaptureFront.j2 k x0 x4 x5 x6 (decide ((x4.length : Int) < 400))) else (patchbayref4_CaptureFront.j2 k x0 x4 x5 x6 false)
def patchbayref4_CaptureFront.j2 : Nat → ByteArray → List (S26) → Int → Int → Bool → Option ((List (S26)) × Int)
  | 0, _, _, _, _, _ => none
  | k + 1, x0, x4, x5, x6, x27 => if x27 = true then (if 0 ≤ (wrap64 (x5 + 6)) then (if (wrap64 (x5 + 6)) ≤ (wrap64 (x5 + 8)) then (if (wrap64 (x5 + 8)) ≤ (x0.size : Int) then ((patchbayref4_Small.f k (x0.extract ((wrap64 (x5 + 6)) : Int).toNat ((wrap64 (x5 + 8)) : Int).toNat)).bind fun t159 => (if t159 > 2000 then (patchbayref4_CaptureFront.j3 k x0 x4 x5 x6 t159 true) else (patchbayref4_CaptureFront.j3 k x0 x4 x5 x6 t159 (decide ((wrap64 ((wrap64 (x5 + 12)) + t159)) > (x0.size : Int)))))) else (none)) else (none)) else (none)) else (some (x4, x5))
def patchbayref4_CaptureFront.j3 : Nat → ByteArray → List (S26) → Int → Int → Int → Bool → Option ((List (S26)) × Int)
  | 0, _, _, _, _, _, _ => none
  | k + 1, x0, x4, x5, x6, x7, x45 => if x45 = true then (some (x4, x5)) else (if 0 ≤ (wrap64 (x5 + 4)) then (if (wrap64 (x5 + 4)) ≤ (wrap64 (x5 + 6)) then (if (wrap64 (x5 + 6)) ≤ (x0.size : Int) then ((patchbayref4_Small.f k (x0.extract ((wrap64 (x5 + 4)) : Int).toNat ((wrap64 (x5 + 6)) : Int).toNat)).bind fun t160 => (if 0 ≤ x5 then (if x5 ≤ (wrap64 (x5 + 4)) then (if (wrap64 (x5 + 4)) ≤ (x0.size : Int) then ((patchbayref4_Small.f k (x0.extract (x5 : Int).toNat ((wrap64 (x5 + 4)) : Int).toNat)).bind fun t161 => (if 0 ≤ (wrap64 (x5 + 8)) then (if (wrap64 (x5 + 8)) ≤ (wrap64 ((wrap64 (x5 + 8)) + x7)) then (if (wrap64 ((wrap64 (x5 + 8)) + x7)) ≤ (x0.size : Int) then (if (wrap64 (x6 + t161)) > 1000000000 then (patchbayref4_CaptureFront.j4 k x0 x4 x5 x7 true (wrap64 (x6 + t161)) (wrap64 (Int.tdiv t160 16)) (Int.tmod (wrap64 (Int.tdiv t160 2)) 8) ((Int.tmod t160 2) == 1) (x0.extract ((wrap64 (x5 + 8)) : Int).toNat ((wrap64 ((wrap64 (x5 + 8)) + x7)) : Int).toNat)) else (if (wrap64 (Int.tdiv t160 16)) > 15 then (patchbayref4_CaptureFront.j4 k x0 x4 x5 x7 true (wrap64 (x6 + t161)) (wrap64 (Int.tdiv t160 16)) (Int.tmod (wrap64 (Int.tdiv t160 2)) 8) ((Int.tmod t160 2) == 1) (x0.extract ((wrap64 (x5 + 8)) : Int).toNat ((wrap64 ((wrap64 (x5 + 8)) + x7)) : Int).toNat)) else ((patchbayref4_RecordText.f k (wrap64 (x6 + t161)) (wrap64 (Int.tdiv t160 16)) (Int.tmod (wrap64 (Int.tdiv t160 2)) 8) ((Int.tmod t160 2) == 1) (x0.extract ((wrap64 (x5 + 8)) : Int).toNat ((wrap64 ((wrap64 (x5 + 8)) + x7)) : Int).toNat) x6).bind fun t163 => (if x5 ≤ (wrap64 ((wrap64 (x5 + 12)) + x7)) then (if (wrap64 ((wrap64 (x5 + 12)) + x7)) ≤ (x0.size : Int) then (patchbayref4_CaptureFront.j4 k x0 x4 x5 x7 (t163.toList != (x0.extract (x5 : Int).toNat ((wrap64 ((wrap64 (x5 + 12)) + x7)) : Int).toNat).toList) (wrap64 (x6 + t161)) (wrap64 (Int.tdiv t160 16)) (Int.tmod (wrap64 (Int.tdiv t160 2)) 8) ((Int.tmod t160 2) == 1) (x0.extract ((wrap64 (x5 + 8)) : Int).toNat ((wrap64 ((wrap64 (x5 + 8)) + x7)) : Int).toNat)) else (none)) else (none))))) else (none)) else (none)) else (none))) else (none)) else (none)) else (none))) else (none)) else (none)) else (none))
def patchbayref4_CaptureFront.j4 : Nat → ByteArray → List (S26) → Int → Int → Bool → Int → Int → Int → Bool → ByteArray → Option ((List (S26)) × Int)
  | 0, _, _, _, _, _, _, _, _, _, _ => none
  | k + 1, x0, x4, x5, x7, x98, x163000, x163001, x163002, x163003, x163004 => if x98 = true then (some (x4, x5)) else (if x4.length < 2932031007402 then (patchbayref4_CaptureFront.l0 k x0 (x4 ++ [(⟨x163000, x163001, x163002, x163003, x163004⟩ : S26)]) (wrap64 ((wrap64 (x5 + 12)) + x7)) x163000) else (none))
end
def patchbayref4_CaptureFront.f (k : Nat) (a0 : ByteArray) : Option ((List (S26)) × Int) := if (a0.size : Int) < 4 then (patchbayref4_CaptureFront.j0 k a0 true) else (if 0 ≤ 4 then (if 4 ≤ (a0.size : Int) then (patchbayref4_CaptureFront.j0 k a0 ((a0.extract 0 4).toList != ([80, 66, 67, 49] : List UInt8))) else (none)) else (none))
theorem patchbayref4_CaptureFront.mono_l : ∀ k, (∀ y0 y1, LeO (patchbayref4_CaptureFront.j0 k y0 y1) (patchbayref4_CaptureFront.j0 (k + 1) y0 y1)) ∧ (∀ y0 y1 y2 y3, LeO (patchbayref4_CaptureFront.l0 k y0 y1 y2 y3) (patchbayref4_CaptureFront.l0 (k + 1) y0 y1 y2 y3)) ∧ (∀ y0 y1 y2 y3 y4, LeO (patchbayref4_CaptureFront.j2 k y0 y1 y2 y3 y4) (patchbayref4_CaptureFront.j2 (k + 1) y0 y1 y2 y3 y4)) ∧ (∀ y0 y1 y2 y3 y4 y5, LeO (patchbayref4_CaptureFront.j3 k y0 y1 y2 y3 y4 y5) (patchbayref4_CaptureFront.j3 (k + 1) y0 y1 y2 y3 y4 y5)) ∧ (∀ y0 y1 y2 y3 y4 y5 y6 y7 y8 y9, LeO (patchbayref4_CaptureFront.j4 k y0 y1 y2 y3 y4 y5 y6 y7 y8 y9) (patchbayref4_CaptureFront.j4 (k + 1) y0 y1 y2 y3 y4 y5 y6 y7 y8 y9))
  | 0 => ⟨fun _ _ r h => by simp [patchbayref4_CaptureFront.j0] at h, fun _ _ _ _ r h => by simp [patchbayref4_CaptureFront.l0] at h, fun _ _ _ _ _ r h => by simp [patchbayref4_CaptureFront.j2] at h, fun _ _ _ _ _ _ r h => by simp [patchbayref4_CaptureFront.j3] at h, fun _ _ _ _ _ _ _ _ _ _ r h => by simp [patchbayref4_CaptureFront.j4] at h⟩
  | k + 1 => by
    obtain ⟨ih0, ih1, ih2, ih3, ih4⟩ := patchbayref4_CaptureFront.mono_l k
    refine ⟨?_, ?_, ?_, ?_, ?_⟩
    · intro y0 y1
      unfold patchbayref4_CaptureFront.j0
      repeat' first
      | (with_reducible exact ih0 _ _)
      | (with_reducible exact ih1 _ _ _ _)
      | (with_reducible exact ih2 _ _ _ _ _)
      | (with_reducible exact ih3 _ _ _ _ _ _)
      | (with_reducible exact ih4 _ _ _ _ _ _ _ _ _ _)
      | (with_reducible exact patchbayref4_RecordText.mono _ _ _ _ _ _ _)
      | (with_reducible exact patchbayref4_Small.mono _ _)
      | (with_reducible exact LeO.refl _)
      | (with_reducible exact LeO.none _)
      | (with_reducible refine LeO.ite ?_ ?_)
      | (with_reducible refine LeO.bind ?_ (fun _ => ?_))
      | exact ih0 _ _
      | exact ih1 _ _ _ _
      | exact ih2 _ _ _ _ _
      | exact ih3 _ _ _ _ _ _
      | exact ih4 _ _ _ _ _ _ _ _ _ _
      | exact patchbayref4_RecordText.mono _ _ _ _ _ _ _
      | exact patchbayref4_Small.mono _ _
      | exact LeO.none _
      | refine LeO.ite ?_ ?_
      | refine LeO.bind ?_ (fun _ => ?_)
    · intro y0 y1 y2 y3
      unfold patchbayref4_CaptureFront.l0
      repeat' first
      | (with_reducible exact ih0 _ _)
      | (with_reducible exact ih1 _ _ _ _)
      | (with_reducible exact ih2 _ _ _ _ _)
      | (with_reducible exact ih3 _ _ _ _ _ _)
      | (with_reducible exact ih4 _ _ _ _ _ _ _ _ _ _)
      | (with_reducible exact patchbayref4_RecordText.mono _ _ _ _ _ _ _)
      | (with_reducible exact patchbayref4_Small.mono _ _)
      | (with_reducible exact LeO.refl _)
      | (with_reducible exact LeO.none _)
      | (with_reducible refine LeO.ite ?_ ?_)
      | (with_reducible refine LeO.bind ?_ (fun _ => ?_))
      | exact ih0 _ _
      | exact ih1 _ _ _ _
      | exact ih2 _ _ _ _ _
      | exact ih3 _ _ _ _ _ _
      | exact ih4 _ _ _ _ _ _ _ _ _ _
      | exact patchbayref4_RecordText.mono _ _ _ _ _ _ _
      | exact patchbayref4_Small.mono _ _
      | exact LeO.none _
      | refine LeO.ite ?_ ?_
      | refine LeO.bind ?_ (fun _ => ?_)
    · intro y0 y1 y2 y3 y4
      unfold patchbayref4_CaptureFront.j2
      repeat' first
      | (with_reducible exact ih0 _ _)
      | (with_reducible exact ih1 _ _ _ _)
      | (with_reducible exact ih2 _ _ _ _ _)
      | (with_reducible exact ih3 _ _ _ _ _ _)
      | (with_reducible exact ih4 _ _ _ _ _ _ _ _ _ _)
      | (with_reducible exact patchbayref4_RecordText.mono _ _ _ _ _ _ _)
      | (with_reducible exact patchbayref4_Small.mono _ _)
      | (with_reducible exact LeO.refl _)
      | (with_reducible exact LeO.none _)
      | (with_reducible refine LeO.ite ?_ ?_)
      | (with_reducible refine LeO.bind ?_ (fun _ => ?_))
      | exact ih0 _ _
      | exact ih1 _ _ _ _
      | exact ih2 _ _ _ _ _
      | exact ih3 _ _ _ _ _ _
      | exact ih4 _ _ _ _ _ _ _ _ _ _
      | exact patchbayref4_RecordText.mono _ _ _ _ _ _ _
      | exact patchbayref4_Small.mono _ _
      | exact LeO.none _
      | refine LeO.ite ?_ ?_
      | refine LeO.bind ?_ (fun _ => ?_)
    · intro y0 y1 y2 y3 y4 y5
      unfold patchbayref4_CaptureFront.j3
      repeat' first
      | (with_reducible exact ih0 _ _)
      | (with_reducible exact ih1 _ _ _ _)
      | (with_reducible exact ih2 _ _ _ _ _)
      | (with_reducible exact ih3 _ _ _ _ _ _)
      | (with_reducible exact ih4 _ _ _ _ _ _ _ _ _ _)
      | (with_reducible exact patchbayref4_RecordText.mono _ _ _ _ _ _ _)
      | (with_reducible exact patchbayref4_Small.mono _ _)
      | (with_reducible exact LeO.refl _)
      | (with_reducible exact LeO.none _)
      | (with_reducible refine LeO.ite ?_ ?_)
      | (with_reducible refine LeO.bind ?_ (fun _ => ?_))
      | exact ih0 _ _
      | exact ih1 _ _ _ _
      | exact ih2 _ _ _ _ _
      | exact ih3 _ _ _ _ _ _
      | exact ih4 _ _ _ _ _ _ _ _ _ _
      | exact patchbayref4_RecordText.mono _ _ _ _ _ _ _
      | exact patchbayref4_Small.mono _ _
      | exact LeO.none _
      | refine LeO.ite ?_ ?_
      | refine LeO.bind ?_ (fun _ => ?_)
    · intro y0 y1 y2 y3 y4 y5 y6 y7 y8 y9
      unfold patchbayref4_CaptureFront.j4
      repeat' first
      | (with_reducible exact ih0 _ _)
      | (with_reducible exact ih1 _ _ _ _)
      | (with_reducible exact ih2 _ _ _ _ _)
      | (with_reducible exact ih3 _ _ _ _ _ _)
      | (with_reducible exact ih4 _ _ _ _ _ _ _ _ _ _)
      | (with_reducible exact patchbayref4_RecordText.mono _ _ _ _ _ _ _)
      | (with_reducible exact patchbayref4_Small.mono _ _)
      | (with_reducible exact LeO.refl _)
      | (with_reducible exact LeO.none _)
      | (with_reducible refine LeO.ite ?_ ?_)
      | (with_reducible refine LeO.bind ?_ (fun _ => ?_))
      | exact ih0 _ _
      | exact ih1 _ _ _ _
      | exact ih2 _ _ _ _ _
      | exact ih3 _ _ _ _ _ _
      | exact ih4 _ _ _ _ _ _ _ _ _ _
      | exact patchbayref4_RecordText.mono _ _ _ _ _ _ _
      | exact patchbayref4_Small.mono _ _
      | exact LeO.none _
      | refine LeO.ite ?_ ?_
      | refine LeO.bind ?_ (fun _ => ?_)
theorem patchbayref4_CaptureFront.mono : ∀ a0 k, LeO (patchbayref4_CaptureFront.f k a0) (patchbayref4_CaptureFront.f (k + 1) a0) := by
  intro a0 k
  obtain ⟨ih0, ih1, ih2, ih3, ih4⟩ := patchbayref4_CaptureFront.mono_l k
  unfold patchbayref4_CaptureFront.f
  repeat' first
      | (with_reducible exact ih0 _ _)
      | (with_reducible exact ih1 _ _ _ _)
      | (with_reducible exact ih2 _ _ _ _ _)
      | (with_reducible exact ih3 _ _ _ _ _ _)
      | (with_reducible exact ih4 _ _ _ _ _ _ _ _ _ _)
      | (with_reducible exact patchbayref4_RecordText.mono _ _ _ _ _ _ _)
      | (with_reducible exact patchbayref4_Small.mono _ _)
      | (with_reducible exact LeO.refl _)
      | (with_reducible exact LeO.none _)
      | (with_reducible refine LeO.ite ?_ ?_)
      | (with_reducible refine LeO.bind ?_ (fun _ => ?_))
      | exact ih0 _ _
      | exact ih1 _ _ _ _
      | exact ih2 _ _ _ _ _
      | exact ih3 _ _ _ _ _ _
      | exact ih4 _ _ _ _ _ _ _ _ _ _
      | exact patchbayref4_RecordText.mono _ _ _ _ _ _ _
      | exact patchbayref4_Small.mono _ _
      | exact LeO.none _
      | refine LeO.ite ?_ ?_
      | refine LeO.bind ?_ (fun _ => ?_)
def patchbayref4_CaptureFront.T9 : Bool × List (List Nat × List Nat) := (true, [([], []), ([], []), ([], []), ([], []), ([3], [3]), ([1, 2, 4], [1, 2, 4]), ([5], [5]), ([0, 6], [0, 6]), ([], []), ([8], [8]), ([], []), ([10], [10]), ([11], [11]), ([], []), ([13], [13]), ([14], [14]), ([], []), ([], []), ([17], [17]), ([], []), ([19], [19]), ([], []), ([20, 21], [20, 21]), ([16, 18, 22], [16, 18, 22]), ([7, 9, 12, 15, 23], [7, 9, 12, 15, 23]), ([], []), ([25, 24, 6, 0, 1, 2, 3, 4, 5, 6, 7, 8, 9, 10, 11, 12, 13, 14, 15, 16, 17, 18, 19, 20, 21, 22, 23, 24, 25], [24, 25])])
def patchbayref4_CaptureFront.B9 : List Nat := [0, 0, 0, 0, 8, 30, 62, 127, 0, 256, 0, 1024, 3072, 0, 8192, 24576, 0, 0, 131072, 0, 524288, 0, 3670016, 8323072, 16777215, 0, 67108863]
theorem patchbayref4_CaptureFront.tab9 : rtab .any (opsOf Try.f22 9) = patchbayref4_CaptureFront.T9 := by kernel_rfl
theorem patchbayref4_CaptureFront.bits9 : waitsOk patchbayref4_CaptureFront.T9.2 patchbayref4_CaptureFront.B9 = true := by kernel_rfl
def patchbayref4_CaptureFront.T10 : Bool × List (List Nat × List Nat) := (true, [([], []), ([0], [0]), ([1], [1]), ([2], [2]), ([3], [3]), ([4, 3], [3, 4]), ([5, 3], [3, 5]), ([3, 6], [3, 6]), ([7, 3], [7]), ([8], [8]), ([8], [8]), ([9, 10, 8, 8], [8, 9, 10]), ([8], [8]), ([8], [8]), ([8], [8]), ([14, 8], [8, 14]), ([8], [8]), ([15, 16, 8], [8, 15, 16]), ([12, 13, 17, 8], [8, 12, 13, 17]), ([11, 18, 8], [8, 11, 18]), ([8, 19], [8, 19])])
def patchbayref4_CaptureFront.B10 : List Nat := [0, 1, 3, 7, 15, 31, 63, 127, 255, 511, 511, 2047, 511, 511, 511, 16895, 511, 115199, 258559, 524287, 1048575]
theorem patchbayref4_CaptureFront.tab10 : rtab .any (opsOf Try.f22 10) = patchbayref4_CaptureFront.T10 := by kernel_rfl
theorem patchbayref4_CaptureFront.bits10 : waitsOk patchbayref4_CaptureFront.T10.2 patchbayref4_CaptureFront.B10 = true := by kernel_rfl
def patchbayref4_CaptureFront.T12 : Bool × List (List Nat × List Nat) := (true, [([], []), ([0], [0]), ([], []), ([1, 2], [1, 2]), ([], []), ([4], [4]), ([3, 0, 1, 2, 3], [0, 3]), ([5, 6, 0, 1, 2, 3, 4, 5, 6], [5])])
def patchbayref4_CaptureFront.B12 : List Nat := [0, 1, 0, 7, 0, 16, 15, 127]
theorem patchbayref4_CaptureFront.tab12 : rtab .any (opsOf Try.f22 12) = patchbayref4_CaptureFront.T12 := by kernel_rfl
theorem patchbayref4_CaptureFront.bits12 : waitsOk patchbayref4_CaptureFront.T12.2 patchbayref4_CaptureFront.B12 = true := by kernel_rfl
set_option maxHeartbeats 8000000 in
set_option maxRecDepth 100000 in
theorem patchbayref4_CaptureFront.calls (k : Nat) (a0 : ByteArray) (r1 : List (S26)) (r2 : Int) (w : World) (h : patchbayref4_CaptureFront.f k a0 = some (r1, r2)) :
    Calls Try.prog 22 #[.string a0] w fun e w' => ∃ v0_ : Value, e = .returned (.tuple #[v0_, .int .i64 r2]) ∧ Kd.R k26 26 w' w.heap.size (fun _ => True) v0_ r1 ∧ Below w.heap.size w w' := by
  have hu26 := Try.underlying26
  have HB := Aside0.mk (Below.refl w.heap.size w)
  have H : (if (a0.size : Int) < 4 then (patchbayref4_CaptureFront.j0 k a0 true) else (if 0 ≤ 4 then (if 4 ≤ (a0.size : Int) then (patchbayref4_CaptureFront.j0 k a0 ((a0.extract 0 4).toList != ([80, 66, 67, 49] : List UInt8))) else (none)) else (none))) = some (r1, r2) := h
  clear h
  have HC2 := Aside0.mk H
  clear H
  go_enter Try.func22, Try.ntmps22
  go_upto_region 1 with (fail)
  go_cut [17] (fun v17 wc => ∃ (kq : Nat) (x17_1 : Bool), v17 = .bool x17_1 ∧ Aside0 (patchbayref4_CaptureFront.j0 kq a0 x17_1 = some (r1, r2)) ∧ Aside0 (kq ≤ k) ∧ Aside0 (Below w.heap.size w wc))
  case first =>
    have H := HC2.out
    clear HC2
    by_cases c3 : (a0.size : Int) < 4
    · rw [if_pos c3] at H
      have c3b0 : decide ((a0.size : Int) < 4) = true := decide_eq_true c3
      have c3b1 : decide (a0.size < 4) = true := decide_eq_true (by omega)
      clear c3
      (first | rw [c3b0] | (simp only [i64_w, i32_w]; rw [c3b0]) | skip)
      have H' := Aside0.mk H
      clear H
      go_wp2
      go_meet
      case rel => exact ⟨_, (true), (by first | rfl | (simp; done) | (simp [*]; done)), (by first | exact H' | (subst_vars; exact H')), ⟨by first | omega | exact Nat.le_refl _⟩, ⟨by repeat (first | (with_reducible first | exact HB.out | apply below_alloc | apply pw_below_drewN | apply below_drew1) | exact HB.out)⟩⟩
    · rw [if_neg c3] at H
      have c3b0 : decide ((a0.size : Int) < 4) = false := decide_eq_false c3
      have c3b1 : decide (a0.size < 4) = false := decide_eq_false (by omega)
      clear c3
      (first | rw [c3b0] | (simp only [i64_w, i32_w]; rw [c3b0]) | skip)
      by_cases c4 : 0 ≤ 4
      · rw [if_pos c4] at H
        have c4b0 := eq_true c4
        have c4b1 : decide (0 ≤ 4) = true := decide_eq_true c4
        clear c4
        by_cases c5 : 4 ≤ (a0.size : Int)
        · rw [if_pos c5] at H
          have c5b0 := eq_true c5
          have c5b1 : decide (4 ≤ (a0.size : Int)) = true := decide_eq_true c5
          clear c5
          have H' := Aside0.mk H
          clear H
          go_wp2
          go_meet
          case rel => exact ⟨_, (((a0.extract 0 4).toList != ([80, 66, 67, 49] : List UInt8))), (by first | rfl | (simp; done) | (simp [*]; done)), (by first | exact H' | (subst_vars; exact H')), ⟨by first | omega | exact Nat.le_refl _⟩, ⟨by repeat (first | (with_reducible first | exact HB.out | apply below_alloc | apply pw_below_drewN | apply below_drew1) | exact HB.out)⟩⟩
        · rw [if_neg c5] at H
          exact absurd H (by simp)
      · rw [if_neg c4] at H
        exact absurd H (by simp)
  case rest =>
    clear HC2
    try clear c2
    try clear p2
    try clear c3
    try clear c3b0
    try clear c3b1
    try clear c4
    try clear c4b0
    try clear c4b1
    try clear c5
    try clear c5b0
    try clear c5b1
    obtain ⟨kq, x17_1, rfl, HA, HJ1, HB⟩ := hcut
    cases kq with
    | zero => exact absurd HA.out (by simp [patchbayref4_CaptureFront.j0])
    | succ kj1 =>
      have H := HA.out
      clear HA
      simp only [patchbayref4_CaptureFront.j0] at H
      by_cases c6 : x17_1 = true
      · subst c6
        have H1 : (some (([] : List (S26)), 0)) = some (r1, r2) := by rw [if_pos rfl] at H; exact H
        clear H
        have H := H1
        clear H1
        simp only [Option.some.injEq, Prod.mk.injEq] at H
        obtain ⟨rfl, rfl⟩ := H
        go_wp2
        go_ret2
        exact ⟨_, by first | rfl | (simp [errW_none, errW_some] <;> rfl) | (simp [*, errW_none, errW_some] <;> rfl), by first | exact Kd.R_nil _ _ _ _ _ | exact Kd.N_nil _ _ _ _ _ | exact Kd.V_nil _ _ _ _ _ | exact Kd.Q_nil _ _ _ _ _ | exact Kd.S_nil _ _ _ _ _, by repeat (first | (with_reducible first | exact HB.out | apply below_alloc | apply pw_below_drewN | apply below_drew1) | exact HB.out)⟩
      · replace c6 := Bool.eq_false_iff.mpr c6
        subst c6
        have H1 : (patchbayref4_CaptureFront.l0 kj1 a0 ([] : List (S26)) 4 0) = some (r1, r2) := by rw [if_neg (show ¬ (false = true) by decide)] at H; exact H
        clear H
        have H := H1
        clear H1
        have H' := Aside0.mk H
        clear H
        go_wp2
        go_loopg [4, 5, 6] kj1 (fun kq v4 v5 v6 w' => ∃ (x4_2 : List (S26)) (x5_2 : Int) (x6_2 : Int), v5 = .int .i64 x5_2 ∧ v6 = .int .i64 x6_2 ∧ Aside0 (patchbayref4_CaptureFront.l0 kq a0 x4_2 x5_2 x6_2 = some (r1, r2)) ∧ Aside0 (kq ≤ kj1) ∧ Aside0 (Kd.R k26 26 w' w.heap.size (fun _ => True) v4 x4_2) ∧ Aside0 (Below w.heap.size w w'))
        case atStart => exact ⟨(([] : List (S26))), (4), (0), (by first | rfl | (simp; done) | (simp [*]; done)), (by first | rfl | (simp; done) | (simp [*]; done)), H', ⟨Nat.le_refl _⟩, ⟨by first | exact Kd.R_nil _ _ _ _ _ | exact Kd.N_nil _ _ _ _ _ | exact Kd.V_nil _ _ _ _ _ | exact Kd.Q_nil _ _ _ _ _ | exact Kd.S_nil _ _ _ _ _⟩, ⟨by repeat (first | (with_reducible first | exact HB.out | apply below_alloc | apply pw_below_drewN | apply below_drew1) | exact HB.out)⟩⟩
        case round =>
          clear H'
          try clear c2
          try clear p2
          try clear c3
          try clear c3b0
          try clear c3b1
          try clear c4
          try clear c4b0
          try clear c4b1
          try clear c5
          try clear c5b0
          try clear c5b1
          try clear c6
          try clear p2
          obtain ⟨x4_2, x5_2, x6_2, rfl, rfl, HA, HK2, HO_4, HB⟩ := hrel
          cases gk with
          | zero => exact absurd HA.out (by simp [patchbayref4_CaptureFront.l0])
          | succ k2 =>
            have H := HA.out
            clear HA
            simp only [patchbayref4_CaptureFront.l0] at H
            have HC7 := Aside0.mk H
            clear H
            go_upto_region 5 with (fail)
            go_cut [27] (fun v27 wc => ∃ (kq : Nat) (x27_6 : Bool), v27 = .bool x27_6 ∧ Aside0 (patchbayref4_CaptureFront.j2 kq a0 x4_2 x5_2 x6_2 x27_6 = some (r1, r2)) ∧ Aside0 (kq ≤ k2) ∧ Aside0 (Kd.R k26 26 wc w.heap.size (fun _ => True) u4 x4_2) ∧ Aside0 (Below w.heap.size w wc))
            case first =>
              have H := HC7.out
              clear HC7
              by_cases c8 : (wrap64 (x5_2 + 12)) ≤ (a0.size : Int)
              · rw [if_pos c8] at H
                have c8b0 : decide ((wrap64 (x5_2 + 12)) ≤ (a0.size : Int)) = true := decide_eq_true c8
                clear c8
                (first | rw [c8b0] | (simp only [i64_w, i32_w]; rw [c8b0]) | skip)
                have H' := Aside0.mk H
                clear H
                obtain ⟨Ao9, co9, eo9⟩ := Kd.R_slice HO_4.out
                subst eo9
                go_wp2
                go_meet
                case rel => exact ⟨_, (decide ((x4_2.length : Int) < 400)), (by first | rfl | (simp; done) | (simp [*]; done)), (by first | exact H' | (subst_vars; exact H')), ⟨by have := HJ1.out; have := HK2.out; first | omega | exact Nat.le_refl _⟩, ⟨by (with_reducible repeat (first | apply Kd.R_alloc | apply Kd.R_drewN | apply Kd.R_drew)); exact HO_4.out⟩, ⟨by repeat (first | (with_reducible first | exact HB.out | apply below_alloc | apply pw_below_drewN | apply below_drew1) | exact HB.out)⟩⟩
              · rw [if_neg c8] at H
                have c8b0 : decide ((wrap64 (x5_2 + 12)) ≤ (a0.size : Int)) = false := decide_eq_false c8
                clear c8
                (first | rw [c8b0] | (simp only [i64_w, i32_w]; rw [c8b0]) | skip)
                have H' := Aside0.mk H
                clear H
                go_wp2
                go_meet
                case rel => exact ⟨_, (false), (by first | rfl | (simp; done) | (simp [*]; done)), (by first | exact H' | (subst_vars; exact H')), ⟨by have := HJ1.out; have := HK2.out; first | omega | exact Nat.le_refl _⟩, ⟨by (with_reducible repeat (first | apply Kd.R_alloc | apply Kd.R_drewN | apply Kd.R_drew)); exact HO_4.out⟩, ⟨by repeat (first | (with_reducible first | exact HB.out | apply below_alloc | apply pw_below_drewN | apply below_drew1) | exact HB.out)⟩⟩
            case rest =>
              clear HC7
              try clear c2
              try clear p2
              try clear c3
              try clear c3b0
              try clear c3b1
              try clear c4
              try clear c4b0
              try clear c4b1
              try clear c5
              try clear c5b0
              try clear c5b1
              try clear c6
              try clear p6
              try clear c8
              try clear c8b0
              try clear p2
              obtain ⟨kq, x27_6, rfl, HA, HJ6, HO_4, HB⟩ := hcut
              cases kq with
              | zero => exact absurd HA.out (by simp [patchbayref4_CaptureFront.j2])
              | succ kj6 =>
                have H := HA.out
                clear HA
                simp only [patchbayref4_CaptureFront.j2] at H
                by_cases c10 : x27_6 = true
                · subst c10
                  have H1 : (if 0 ≤ (wrap64 (x5_2 + 6)) then (if (wrap64 (x5_2 + 6)) ≤ (wrap64 (x5_2 + 8)) then (if (wrap64 (x5_2 + 8)) ≤ (a0.size : Int) then ((patchbayref4_Small.f kj6 (a0.extract ((wrap64 (x5_2 + 6)) : Int).toNat ((wrap64 (x5_2 + 8)) : Int).toNat)).bind fun t159 => (if t159 > 2000 then (patchbayref4_CaptureFront.j3 kj6 a0 x4_2 x5_2 x6_2 t159 true) else (patchbayref4_CaptureFront.j3 kj6 a0 x4_2 x5_2 x6_2 t159 (decide ((wrap64 ((wrap64 (x5_2 + 12)) + t159)) > (a0.size : Int)))))) else (none)) else (none)) else (none)) = some (r1, r2) := by rw [if_pos rfl] at H; exact H
                  clear H
                  have H := H1
                  clear H1
                  obtain ⟨ji11, hji11⟩ : ∃ j_ : Int, (wrap64 (x5_2 + 6)) = j_ := ⟨_, rfl⟩
                  replace H : (if 0 ≤ (ji11) then (if (ji11) ≤ (wrap64 (x5_2 + 8)) then (if (wrap64 (x5_2 + 8)) ≤ (a0.size : Int) then ((patchbayref4_Small.f kj6 (a0.extract ((ji11) : Int).toNat ((wrap64 (x5_2 + 8)) : Int).toNat)).bind fun t159 => (if t159 > 2000 then (patchbayref4_CaptureFront.j3 kj6 a0 x4_2 x5_2 x6_2 t159 true) else (patchbayref4_CaptureFront.j3 kj6 a0 x4_2 x5_2 x6_2 t159 (decide ((wrap64 ((wrap64 (x5_2 + 12)) + t159)) > (a0.size : Int)))))) else (none)) else (none)) else (none)) = some (r1, r2) := by first | (rw [hji11] at H; exact H) | (simp only [hji11] at H ⊢; exact H)
                  have hji11w : (IntKind.i64.wrap (x5_2 + 6)) = ji11 := (i64_w _).trans hji11
                  by_cases c12 : 0 ≤ (ji11)
                  · rw [if_pos c12] at H
                    have c12b0 := eq_true c12
                    have c12b1 : decide (0 ≤ (ji11)) = true := decide_eq_true c12
                    clear c12
                    by_cases c13 : (ji11) ≤ (wrap64 (x5_2 + 8))
                    · rw [if_pos c13] at H
                      have c13b0 := eq_true c13
                      have c13b1 : decide ((ji11) ≤ (wrap64 (x5_2 + 8))) = true := decide_eq_true c13
                      by_cases c14 : (wrap64 (x5_2 + 8)) ≤ (a0.size : Int)
                      · rw [if_pos c14] at H
                        have c14b0 := eq_true c14
                        have c14b1 : decide ((wrap64 (x5_2 + 8)) ≤ (a0.size : Int)) = true := decide_eq_true c14
                        replace H := Option.bind_eq_some_iff.mp H
                        obtain ⟨t159, A150, H⟩ := H
                        replace H : (if t159 > 2000 then (patchbayref4_CaptureFront.j3 kj6 a0 x4_2 x5_2 x6_2 t159 true) else (patchbayref4_CaptureFront.j3 kj6 a0 x4_2 x5_2 x6_2 t159 (decide ((wrap64 ((wrap64 (x5_2 + 12)) + t159)) > (a0.size : Int))))) = some (r1, r2) := H
                        have A15 := Aside0.mk A150
                        clear A150
                        have HC16 := Aside0.mk H
                        clear H
                        go_upto_region 7 with (first | ((with_reducible refine gate_callee (f := 25) rfl ?_); refine goesL_ (some 34) rfl rfl Try.func25 (by kernel_rfl) rfl #[.string (a0.extract ((ji11) : Int).toNat ((wrap64 (x5_2 + 8)) : Int).toNat)] rfl (by (try simp only [List.map_toArray, List.map_cons, List.map_nil]); first | done | (simp only [hji11]; rfl) | rfl | (simp only [List.length_drop, List.length_take]; rfl)) ?_; (with_reducible refine (patchbayref4_Small.calls kj6 (a0.extract ((ji11) : Int).toNat ((wrap64 (x5_2 + 8)) : Int).toNat) t159 _ A15.out).mono ?_); rintro e w' ⟨rfl, ⟨nd, rfl⟩⟩; refine ⟨_, rfl, ?_⟩))
                        (try simp only [Act.put, List.setIfInBounds_toArray, List.set_cons_zero, List.set_cons_succ])
                        go_cut [45] (fun v45 wc => ∃ (kq : Nat) (x45_15 : Bool), v45 = .bool x45_15 ∧ Aside0 (patchbayref4_CaptureFront.j3 kq a0 x4_2 x5_2 x6_2 t159 x45_15 = some (r1, r2)) ∧ Aside0 (kq ≤ kj6) ∧ Aside0 (Kd.R k26 26 wc w.heap.size (fun _ => True) u4 x4_2) ∧ Aside0 (Below w.heap.size w wc))
                        case first =>
                          have H := HC16.out
                          clear HC16
                          by_cases c17 : t159 > 2000
                          · rw [if_pos c17] at H
                            have c17b0 : decide (2000 < t159) = true := decide_eq_true c17
                            clear c17
                            (first | rw [c17b0] | (simp only [i64_w, i32_w]; rw [c17b0]) | skip)
                            have H' := Aside0.mk H
                            clear H
                            go_wp2
                            go_meet
                            case rel => exact ⟨_, (true), (by first | rfl | (simp; done) | (simp [*]; done)), (by first | exact H' | (subst_vars; exact H')), ⟨by have := HJ1.out; have := HK2.out; have := HJ6.out; first | omega | exact Nat.le_refl _⟩, ⟨by (with_reducible repeat (first | apply Kd.R_alloc | apply Kd.R_drewN | apply Kd.R_drew)); exact HO_4.out⟩, ⟨by repeat (first | (with_reducible first | exact HB.out | apply below_alloc | apply pw_below_drewN | apply below_drew1) | exact HB.out)⟩⟩
                          · rw [if_neg c17] at H
                            have c17b0 : decide (2000 < t159) = false := decide_eq_false c17
                            clear c17
                            (first | rw [c17b0] | (simp only [i64_w, i32_w]; rw [c17b0]) | skip)
                            have H' := Aside0.mk H
                            clear H
                            go_wp2
                            go_meet
                            case rel => exact ⟨_, (decide ((wrap64 ((wrap64 (x5_2 + 12)) + t159)) > (a0.size : Int))), (by first | rfl | (simp; done) | (simp [*]; done)), (by first | exact H' | (subst_vars; exact H')), ⟨by have := HJ1.out; have := HK2.out; have := HJ6.out; first | omega | exact Nat.le_refl _⟩, ⟨by (with_reducible repeat (first | apply Kd.R_alloc | apply Kd.R_drewN | apply Kd.R_drew)); exact HO_4.out⟩, ⟨by repeat (first | (with_reducible first | exact HB.out | apply below_alloc | apply pw_below_drewN | apply below_drew1) | exact HB.out)⟩⟩
                        case rest =>
                          clear HC16
                          try clear c1
                          try clear c2
                          try clear p2
                          try clear c3
                          try clear c3b0
                          try clear c3b1
                          try clear c4
                          try clear c4b0
                          try clear c4b1
                          try clear c5
                          try clear c5b0
                          try clear c5b1
                          try clear c6
                          try clear p6
                          try clear c8
                          try clear c8b0
                          try clear c10
                          try clear c12
                          try clear c12b0
                          try clear c12b1
                          try clear c13
                          try clear c13b0
                          try clear c13b1
                          try clear c14
                          try clear c14b0
                          try clear c14b1
                          try clear c17
                          try clear c17b0
                          try clear hji11
                          try clear hji11w
                          try clear p2
                          try clear p6
                          obtain ⟨kq, x45_15, rfl, HA, HJ15, HO_4, HB⟩ := hcut
                          cases kq with
                          | zero => exact absurd HA.out (by simp [patchbayref4_CaptureFront.j3])
                          | succ kj15 =>
                            have H := HA.out
                            clear HA
                            simp only [patchbayref4_CaptureFront.j3] at H
                            by_cases c18 : x45_15 = true
                            · subst c18
                              have H1 : (some (x4_2, x5_2)) = some (r1, r2) := by rw [if_pos rfl] at H; exact H
                              clear H
                              have H := H1
                              clear H1
                              simp only [Option.some.injEq, Prod.mk.injEq] at H
                              obtain ⟨rfl, rfl⟩ := H
                              go_wp2
                              go_ret2
                              exact ⟨_, by first | rfl | (simp [errW_none, errW_some] <;> rfl) | (simp only [← hji11]; first | rfl | (simp [errW_none, errW_some] <;> rfl)) | (simp [*, errW_none, errW_some] <;> rfl), by (with_reducible repeat (first | apply Kd.R_alloc | apply Kd.R_drewN | apply Kd.R_drew)); exact HO_4.out, by repeat (first | (with_reducible first | exact HB.out | apply below_alloc | apply pw_below_drewN | apply below_drew1) | exact HB.out)⟩
                            · replace c18 := Bool.eq_false_iff.mpr c18
                              subst c18
                              have H1 : (if 0 ≤ (wrap64 (x5_2 + 4)) then (if (wrap64 (x5_2 + 4)) ≤ (wrap64 (x5_2 + 6)) then (if (wrap64 (x5_2 + 6)) ≤ (a0.size : Int) then ((patchbayref4_Small.f kj15 (a0.extract ((wrap64 (x5_2 + 4)) : Int).toNat ((wrap64 (x5_2 + 6)) : Int).toNat)).bind fun t160 => (if 0 ≤ x5_2 then (if x5_2 ≤ (wrap64 (x5_2 + 4)) then (if (wrap64 (x5_2 + 4)) ≤ (a0.size : Int) then ((patchbayref4_Small.f kj15 (a0.extract (x5_2 : Int).toNat ((wrap64 (x5_2 + 4)) : Int).toNat)).bind fun t161 => (if 0 ≤ (wrap64 (x5_2 + 8)) then (if (wrap64 (x5_2 + 8)) ≤ (wrap64 ((wrap64 (x5_2 + 8)) + t159)) then (if (wrap64 ((wrap64 (x5_2 + 8)) + t159)) ≤ (a0.size : Int) then (if (wrap64 (x6_2 + t161)) > 1000000000 then (patchbayref4_CaptureFront.j4 kj15 a0 x4_2 x5_2 t159 true (wrap64 (x6_2 + t161)) (wrap64 (Int.tdiv t160 16)) (Int.tmod (wrap64 (Int.tdiv t160 2)) 8) ((Int.tmod t160 2) == 1) (a0.extract ((wrap64 (x5_2 + 8)) : Int).toNat ((wrap64 ((wrap64 (x5_2 + 8)) + t159)) : Int).toNat)) else (if (wrap64 (Int.tdiv t160 16)) > 15 then (patchbayref4_CaptureFront.j4 kj15 a0 x4_2 x5_2 t159 true (wrap64 (x6_2 + t161)) (wrap64 (Int.tdiv t160 16)) (Int.tmod (wrap64 (Int.tdiv t160 2)) 8) ((Int.tmod t160 2) == 1) (a0.extract ((wrap64 (x5_2 + 8)) : Int).toNat ((wrap64 ((wrap64 (x5_2 + 8)) + t159)) : Int).toNat)) else ((patchbayref4_RecordText.f kj15 (wrap64 (x6_2 + t161)) (wrap64 (Int.tdiv t160 16)) (Int.tmod (wrap64 (Int.tdiv t160 2)) 8) ((Int.tmod t160 2) == 1) (a0.extract ((wrap64 (x5_2 + 8)) : Int).toNat ((wrap64 ((wrap64 (x5_2 + 8)) + t159)) : Int).toNat) x6_2).bind fun t163 => (if x5_2 ≤ (wrap64 ((wrap64 (x5_2 + 12)) + t159)) then (if (wrap64 ((wrap64 (x5_2 + 12)) + t159)) ≤ (a0.size : Int) then (patchbayref4_CaptureFront.j4 kj15 a0 x4_2 x5_2 t159 (t163.toList != (a0.extract (x5_2 : Int).toNat ((wrap64 ((wrap64 (x5_2 + 12)) + t159)) : Int).toNat).toList) (wrap64 (x6_2 + t161)) (wrap64 (Int.tdiv t160 16)) (Int.tmod (wrap64 (Int.tdiv t160 2)) 8) ((Int.tmod t160 2) == 1) (a0.extract ((wrap64 (x5_2 + 8)) : Int).toNat ((wrap64 ((wrap64 (x5_2 + 8)) + t159)) : Int).toNat)) else (none)) else (none))))) else (none)) else (none)) else (none))) else (none)) else (none)) else (none))) else (none)) else (none)) else (none)) = some (r1, r2) := by rw [if_neg (show ¬ (false = true) by decide)] at H; exact H
                              clear H
                              have H := H1
                              clear H1
                              obtain ⟨ji19, hji19⟩ : ∃ j_ : Int, (wrap64 (x5_2 + 4)) = j_ := ⟨_, rfl⟩
                              replace H : (if 0 ≤ (ji19) then (if (ji19) ≤ (wrap64 (x5_2 + 6)) then (if (wrap64 (x5_2 + 6)) ≤ (a0.size : Int) then ((patchbayref4_Small.f kj15 (a0.extract ((ji19) : Int).toNat ((wrap64 (x5_2 + 6)) : Int).toNat)).bind fun t160 => (if 0 ≤ x5_2 then (if x5_2 ≤ (ji19) then (if (ji19) ≤ (a0.size : Int) then ((patchbayref4_Small.f kj15 (a0.extract (x5_2 : Int).toNat ((ji19) : Int).toNat)).bind fun t161 => (if 0 ≤ (wrap64 (x5_2 + 8)) then (if (wrap64 (x5_2 + 8)) ≤ (wrap64 ((wrap64 (x5_2 + 8)) + t159)) then (if (wrap64 ((wrap64 (x5_2 + 8)) + t159)) ≤ (a0.size : Int) then (if (wrap64 (x6_2 + t161)) > 1000000000 then (patchbayref4_CaptureFront.j4 kj15 a0 x4_2 x5_2 t159 true (wrap64 (x6_2 + t161)) (wrap64 (Int.tdiv t160 16)) (Int.tmod (wrap64 (Int.tdiv t160 2)) 8) ((Int.tmod t160 2) == 1) (a0.extract ((wrap64 (x5_2 + 8)) : Int).toNat ((wrap64 ((wrap64 (x5_2 + 8)) + t159)) : Int).toNat)) else (if (wrap64 (Int.tdiv t160 16)) > 15 then (patchbayref4_CaptureFront.j4 kj15 a0 x4_2 x5_2 t159 true (wrap64 (x6_2 + t161)) (wrap64 (Int.tdiv t160 16)) (Int.tmod (wrap64 (Int.tdiv t160 2)) 8) ((Int.tmod t160 2) == 1) (a0.extract ((wrap64 (x5_2 + 8)) : Int).toNat ((wrap64 ((wrap64 (x5_2 + 8)) + t159)) : Int).toNat)) else ((patchbayref4_RecordText.f kj15 (wrap64 (x6_2 + t161)) (wrap64 (Int.tdiv t160 16)) (Int.tmod (wrap64 (Int.tdiv t160 2)) 8) ((Int.tmod t160 2) == 1) (a0.extract ((wrap64 (x5_2 + 8)) : Int).toNat ((wrap64 ((wrap64 (x5_2 + 8)) + t159)) : Int).toNat) x6_2).bind fun t163 => (if x5_2 ≤ (wrap64 ((wrap64 (x5_2 + 12)) + t159)) then (if (wrap64 ((wrap64 (x5_2 + 12)) + t159)) ≤ (a0.size : Int) then (patchbayref4_CaptureFront.j4 kj15 a0 x4_2 x5_2 t159 (t163.toList != (a0.extract (x5_2 : Int).toNat ((wrap64 ((wrap64 (x5_2 + 12)) + t159)) : Int).toNat).toList) (wrap64 (x6_2 + t161)) (wrap64 (Int.tdiv t160 16)) (Int.tmod (wrap64 (Int.tdiv t160 2)) 8) ((Int.tmod t160 2) == 1) (a0.extract ((wrap64 (x5_2 + 8)) : Int).toNat ((wrap64 ((wrap64 (x5_2 + 8)) + t159)) : Int).toNat)) else (none)) else (none))))) else (none)) else (none)) else (none))) else (none)) else (none)) else (none))) else (none)) else (none)) else (none)) = some (r1, r2) := by first | (rw [hji19] at H; exact H) | (simp only [hji19] at H ⊢; exact H)
                              have hji19w : (IntKind.i64.wrap (x5_2 + 4)) = ji19 := (i64_w _).trans hji19
                              by_cases c20 : 0 ≤ (ji19)
                              · rw [if_pos c20] at H
                                have c20b0 := eq_true c20
                                have c20b1 : decide (0 ≤ (ji19)) = true := decide_eq_true c20
                                clear c20
                                by_cases c21 : (ji19) ≤ (wrap64 (x5_2 + 6))
                                · rw [if_pos c21] at H
                                  have c21b0 := eq_true c21
                                  have c21b1 : decide ((ji19) ≤ (wrap64 (x5_2 + 6))) = true := decide_eq_true c21
                                  by_cases c22 : (wrap64 (x5_2 + 6)) ≤ (a0.size : Int)
                                  · rw [if_pos c22] at H
                                    have c22b0 := eq_true c22
                                    have c22b1 : decide ((wrap64 (x5_2 + 6)) ≤ (a0.size : Int)) = true := decide_eq_true c22
                                    replace H := Option.bind_eq_some_iff.mp H
                                    obtain ⟨t160, A230, H⟩ := H
                                    replace H : (if 0 ≤ x5_2 then (if x5_2 ≤ (ji19) then (if (ji19) ≤ (a0.size : Int) then ((patchbayref4_Small.f kj15 (a0.extract (x5_2 : Int).toNat ((ji19) : Int).toNat)).bind fun t161 => (if 0 ≤ (wrap64 (x5_2 + 8)) then (if (wrap64 (x5_2 + 8)) ≤ (wrap64 ((wrap64 (x5_2 + 8)) + t159)) then (if (wrap64 ((wrap64 (x5_2 + 8)) + t159)) ≤ (a0.size : Int) then (if (wrap64 (x6_2 + t161)) > 1000000000 then (patchbayref4_CaptureFront.j4 kj15 a0 x4_2 x5_2 t159 true (wrap64 (x6_2 + t161)) (wrap64 (Int.tdiv t160 16)) (Int.tmod (wrap64 (Int.tdiv t160 2)) 8) ((Int.tmod t160 2) == 1) (a0.extract ((wrap64 (x5_2 + 8)) : Int).toNat ((wrap64 ((wrap64 (x5_2 + 8)) + t159)) : Int).toNat)) else (if (wrap64 (Int.tdiv t160 16)) > 15 then (patchbayref4_CaptureFront.j4 kj15 a0 x4_2 x5_2 t159 true (wrap64 (x6_2 + t161)) (wrap64 (Int.tdiv t160 16)) (Int.tmod (wrap64 (Int.tdiv t160 2)) 8) ((Int.tmod t160 2) == 1) (a0.extract ((wrap64 (x5_2 + 8)) : Int).toNat ((wrap64 ((wrap64 (x5_2 + 8)) + t159)) : Int).toNat)) else ((patchbayref4_RecordText.f kj15 (wrap64 (x6_2 + t161)) (wrap64 (Int.tdiv t160 16)) (Int.tmod (wrap64 (Int.tdiv t160 2)) 8) ((Int.tmod t160 2) == 1) (a0.extract ((wrap64 (x5_2 + 8)) : Int).toNat ((wrap64 ((wrap64 (x5_2 + 8)) + t159)) : Int).toNat) x6_2).bind fun t163 => (if x5_2 ≤ (wrap64 ((wrap64 (x5_2 + 12)) + t159)) then (if (wrap64 ((wrap64 (x5_2 + 12)) + t159)) ≤ (a0.size : Int) then (patchbayref4_CaptureFront.j4 kj15 a0 x4_2 x5_2 t159 (t163.toList != (a0.extract (x5_2 : Int).toNat ((wrap64 ((wrap64 (x5_2 + 12)) + t159)) : Int).toNat).toList) (wrap64 (x6_2 + t161)) (wrap64 (Int.tdiv t160 16)) (Int.tmod (wrap64 (Int.tdiv t160 2)) 8) ((Int.tmod t160 2) == 1) (a0.extract ((wrap64 (x5_2 + 8)) : Int).toNat ((wrap64 ((wrap64 (x5_2 + 8)) + t159)) : Int).toNat)) else (none)) else (none))))) else (none)) else (none)) else (none))) else (none)) else (none)) else (none)) = some (r1, r2) := H
                                    have A23 := Aside0.mk A230
                                    clear A230
                                    by_cases c24 : 0 ≤ x5_2
                                    · rw [if_pos c24] at H
                                      have c24b0 := eq_true c24
                                      have c24b1 : decide (0 ≤ x5_2) = true := decide_eq_true c24
                                      clear c24
                                      by_cases c25 : x5_2 ≤ (ji19)
                                      · rw [if_pos c25] at H
                                        have c25b0 := eq_true c25
                                        have c25b1 : decide (x5_2 ≤ (ji19)) = true := decide_eq_true c25
                                        clear c25
                                        by_cases c26 : (ji19) ≤ (a0.size : Int)
                                        · rw [if_pos c26] at H
                                          have c26b0 := eq_true c26
                                          have c26b1 : decide ((ji19) ≤ (a0.size : Int)) = true := decide_eq_true c26
                                          clear c26
                                          replace H := Option.bind_eq_some_iff.mp H
                                          obtain ⟨t161, A270, H⟩ := H
                                          replace H : (if 0 ≤ (wrap64 (x5_2 + 8)) then (if (wrap64 (x5_2 + 8)) ≤ (wrap64 ((wrap64 (x5_2 + 8)) + t159)) then (if (wrap64 ((wrap64 (x5_2 + 8)) + t159)) ≤ (a0.size : Int) then (if (wrap64 (x6_2 + t161)) > 1000000000 then (patchbayref4_CaptureFront.j4 kj15 a0 x4_2 x5_2 t159 true (wrap64 (x6_2 + t161)) (wrap64 (Int.tdiv t160 16)) (Int.tmod (wrap64 (Int.tdiv t160 2)) 8) ((Int.tmod t160 2) == 1) (a0.extract ((wrap64 (x5_2 + 8)) : Int).toNat ((wrap64 ((wrap64 (x5_2 + 8)) + t159)) : Int).toNat)) else (if (wrap64 (Int.tdiv t160 16)) > 15 then (patchbayref4_CaptureFront.j4 kj15 a0 x4_2 x5_2 t159 true (wrap64 (x6_2 + t161)) (wrap64 (Int.tdiv t160 16)) (Int.tmod (wrap64 (Int.tdiv t160 2)) 8) ((Int.tmod t160 2) == 1) (a0.extract ((wrap64 (x5_2 + 8)) : Int).toNat ((wrap64 ((wrap64 (x5_2 + 8)) + t159)) : Int).toNat)) else ((patchbayref4_RecordText.f kj15 (wrap64 (x6_2 + t161)) (wrap64 (Int.tdiv t160 16)) (Int.tmod (wrap64 (Int.tdiv t160 2)) 8) ((Int.tmod t160 2) == 1) (a0.extract ((wrap64 (x5_2 + 8)) : Int).toNat ((wrap64 ((wrap64 (x5_2 + 8)) + t159)) : Int).toNat) x6_2).bind fun t163 => (if x5_2 ≤ (wrap64 ((wrap64 (x5_2 + 12)) + t159)) then (if (wrap64 ((wrap64 (x5_2 + 12)) + t159)) ≤ (a0.size : Int) then (patchbayref4_CaptureFront.j4 kj15 a0 x4_2 x5_2 t159 (t163.toList != (a0.extract (x5_2 : Int).toNat ((wrap64 ((wrap64 (x5_2 + 12)) + t159)) : Int).toNat).toList) (wrap64 (x6_2 + t161)) (wrap64 (Int.tdiv t160 16)) (Int.tmod (wrap64 (Int.tdiv t160 2)) 8) ((Int.tmod t160 2) == 1) (a0.extract ((wrap64 (x5_2 + 8)) : Int).toNat ((wrap64 ((wrap64 (x5_2 + 8)) + t159)) : Int).toNat)) else (none)) else (none))))) else (none)) else (none)) else (none)) = some (r1, r2) := H
                                          have A27 := Aside0.mk A270
                                          clear A270
                                          obtain ⟨ji28, hji28⟩ : ∃ j_ : Int, (wrap64 (x5_2 + 8)) = j_ := ⟨_, rfl⟩
                                          replace H : (if 0 ≤ (ji28) then (if (ji28) ≤ (wrap64 ((ji28) + t159)) then (if (wrap64 ((ji28) + t159)) ≤ (a0.size : Int) then (if (wrap64 (x6_2 + t161)) > 1000000000 then (patchbayref4_CaptureFront.j4 kj15 a0 x4_2 x5_2 t159 true (wrap64 (x6_2 + t161)) (wrap64 (Int.tdiv t160 16)) (Int.tmod (wrap64 (Int.tdiv t160 2)) 8) ((Int.tmod t160 2) == 1) (a0.extract ((ji28) : Int).toNat ((wrap64 ((ji28) + t159)) : Int).toNat)) else (if (wrap64 (Int.tdiv t160 16)) > 15 then (patchbayref4_CaptureFront.j4 kj15 a0 x4_2 x5_2 t159 true (wrap64 (x6_2 + t161)) (wrap64 (Int.tdiv t160 16)) (Int.tmod (wrap64 (Int.tdiv t160 2)) 8) ((Int.tmod t160 2) == 1) (a0.extract ((ji28) : Int).toNat ((wrap64 ((ji28) + t159)) : Int).toNat)) else ((patchbayref4_RecordText.f kj15 (wrap64 (x6_2 + t161)) (wrap64 (Int.tdiv t160 16)) (Int.tmod (wrap64 (Int.tdiv t160 2)) 8) ((Int.tmod t160 2) == 1) (a0.extract ((ji28) : Int).toNat ((wrap64 ((ji28) + t159)) : Int).toNat) x6_2).bind fun t163 => (if x5_2 ≤ (wrap64 ((wrap64 (x5_2 + 12)) + t159)) then (if (wrap64 ((wrap64 (x5_2 + 12)) + t159)) ≤ (a0.size : Int) then (patchbayref4_CaptureFront.j4 kj15 a0 x4_2 x5_2 t159 (t163.toList != (a0.extract (x5_2 : Int).toNat ((wrap64 ((wrap64 (x5_2 + 12)) + t159)) : Int).toNat).toList) (wrap64 (x6_2 + t161)) (wrap64 (Int.tdiv t160 16)) (Int.tmod (wrap64 (Int.tdiv t160 2)) 8) ((Int.tmod t160 2) == 1) (a0.extract ((ji28) : Int).toNat ((wrap64 ((ji28) + t159)) : Int).toNat)) else (none)) else (none))))) else (none)) else (none)) else (none)) = some (r1, r2) := by first | (rw [hji28] at H; exact H) | (simp only [hji28] at H ⊢; exact H)
                                          (try rw [hji28] at c13b0)
                                          (try rw [hji28] at c13b1)
                                          (try rw [hji28] at c13)
                                          (try rw [hji28] at c14b0)
                                          (try rw [hji28] at c14b1)
                                          (try rw [hji28] at c14)
                                          (try rw [hji28] at A23)
                                          (try rw [hji28] at A27)
                                          have hji28w : (IntKind.i64.wrap (x5_2 + 8)) = ji28 := (i64_w _).trans hji28
                                          by_cases c29 : 0 ≤ (ji28)
                                          · rw [if_pos c29] at H
                                            have c29b0 := eq_true c29
                                            have c29b1 : decide (0 ≤ (ji28)) = true := decide_eq_true c29
                                            clear c29
                                            by_cases c30 : (ji28) ≤ (wrap64 ((ji28) + t159))
                                            · rw [if_pos c30] at H
                                              have c30b0 := eq_true c30
                                              have c30b1 : decide ((ji28) ≤ (wrap64 ((ji28) + t159))) = true := decide_eq_true c30
                                              by_cases c31 : (wrap64 ((ji28) + t159)) ≤ (a0.size : Int)
                                              · rw [if_pos c31] at H
                                                have c31b0 := eq_true c31
                                                have c31b1 : decide ((wrap64 ((ji28) + t159)) ≤ (a0.size : Int)) = true := decide_eq_true c31
                                                have HC32 := Aside0.mk H
                                                clear H
                                                try go_wp2_with (first | ((with_reducible refine gate_callee (f := 25) rfl ?_); refine goesL_ (some 52) rfl rfl Try.func25 (by kernel_rfl) rfl #[.string (a0.extract ((ji19) : Int).toNat ((wrap64 (x5_2 + 6)) : Int).toNat)] rfl (by (try simp only [List.map_toArray, List.map_cons, List.map_nil]); first | done | (simp only [hji19]; rfl) | rfl | (simp only [List.length_drop, List.length_take]; rfl)) ?_; (with_reducible refine (patchbayref4_Small.calls kj15 (a0.extract ((ji19) : Int).toNat ((wrap64 (x5_2 + 6)) : Int).toNat) t160 _ A23.out).mono ?_); rintro e w' ⟨rfl, ⟨nd, rfl⟩⟩; refine ⟨_, rfl, ?_⟩; (try (rw [drewN_self wc]; generalize hq_ : World.drewN wc _ = wc; have n0_ : Aside0 (Kd.R k26 26 wc w.heap.size (fun _ => True) u4 x4_2) := ⟨by rw [← hq_]; exact (by (with_reducible repeat (first | apply Kd.R_alloc | apply Kd.R_drewN | apply Kd.R_drew)); exact HO_4.out)⟩; have n1_ : Aside0 (Below w.heap.size w wc) := ⟨by rw [← hq_]; exact (by repeat (first | (with_reducible first | exact HB.out | apply below_alloc | apply pw_below_drewN | apply below_drew1) | exact HB.out))⟩; clear HO_4 HB hq_; have HO_4 := n0_; have HB := n1_; clear n0_ n1_))))
                                                have n0_ := Aside0.mk (Kd.R_drew HO_4.out)
                                                have n1_ := Aside0.mk (below_drew1 HB.out)
                                                clear HO_4
                                                clear HB
                                                have HO_4 := n0_
                                                have HB := n1_
                                                clear n0_ n1_
                                                refine start_ (n := 27) (S := fun w' => True) (ds := []) #[false, false, false, false, false, false, false, false, false, false, false, false, false, false, false, false, false, false, false, false, false, false, false, false, false, false, false] (by kernel_rfl) rfl rfl trivial (fun hHeld => ?_); refine with_tabW patchbayref4_CaptureFront.tab9 patchbayref4_CaptureFront.bits9 (fun HT_ HW_ => ?_)
                                                generalize wc.drew = w33 at HO_4 HB hHeld ⊢
                                                refine pure_ (i := 0) (N := some 53) (v := ?_) (a' := ?_) #[true, false, false, false, false, false, false, false, false, false, false, false, false, false, false, false, false, false, false, false, false, false, false, false, false, false, false] rfl rfl (any_of HT_.out (by kernel_rfl)) (fun _ _ _ h => h) (Or.inl ⟨by rfl, ?_⟩) ?_ ?_
                                                rotate_left
                                                · intro w'
                                                  go_simp
                                                  with_reducible rfl
                                                rotate_left
                                                · simp only [Act.put, List.setIfInBounds_toArray, List.set_cons_zero, List.set_cons_succ, i64_w, i32_w]
                                                  rfl
                                                refine pure_ (i := 1) (N := some 54) (v := ?_) (a' := ?_) #[true, true, false, false, false, false, false, false, false, false, false, false, false, false, false, false, false, false, false, false, false, false, false, false, false, false, false] rfl rfl (any_of HT_.out (by kernel_rfl)) (fun _ _ _ h => h) (Or.inl ⟨by rfl, ?_⟩) ?_ ?_
                                                rotate_left
                                                · intro w'
                                                  go_simp
                                                  with_reducible rfl
                                                rotate_left
                                                · simp only [Act.put, List.setIfInBounds_toArray, List.set_cons_zero, List.set_cons_succ, i64_w, i32_w]
                                                  rfl
                                                refine pure_ (i := 2) (N := some 55) (v := ?_) (a' := ?_) #[true, true, true, false, false, false, false, false, false, false, false, false, false, false, false, false, false, false, false, false, false, false, false, false, false, false, false] rfl rfl (any_of HT_.out (by kernel_rfl)) (fun _ _ _ h => h) (Or.inl ⟨by rfl, ?_⟩) ?_ ?_
                                                rotate_left
                                                · intro w'
                                                  go_simp
                                                  with_reducible rfl
                                                rotate_left
                                                · simp only [Act.put, List.setIfInBounds_toArray, List.set_cons_zero, List.set_cons_succ, i64_w, i32_w]
                                                  rfl
                                                refine pure_ (i := 3) (N := some 56) (v := ?_) (a' := ?_) #[true, true, true, true, false, false, false, false, false, false, false, false, false, false, false, false, false, false, false, false, false, false, false, false, false, false, false] rfl rfl (any_of HT_.out (by kernel_rfl)) (fun _ _ _ h => h) (Or.inl ⟨by rfl, ?_⟩) ?_ ?_
                                                rotate_left
                                                · intro w'
                                                  go_simp
                                                  with_reducible rfl
                                                rotate_left
                                                · simp only [Act.put, List.setIfInBounds_toArray, List.set_cons_zero, List.set_cons_succ, i64_w, i32_w]
                                                  rfl
                                                refine pure_ (i := 4) (N := some 57) (v := ?_) (a' := ?_) #[true, true, true, true, true, false, false, false, false, false, false, false, false, false, false, false, false, false, false, false, false, false, false, false, false, false, false] rfl rfl (any_of HT_.out (by kernel_rfl)) (fun _ _ _ h => h) (Or.inl ⟨by rfl, ?_⟩) ?_ ?_
                                                rotate_left
                                                · intro w'
                                                  go_simp
                                                  with_reducible rfl
                                                rotate_left
                                                · simp only [Act.put, List.setIfInBounds_toArray, List.set_cons_zero, List.set_cons_succ, i64_w, i32_w]
                                                  rfl
                                                refine pure_ (i := 5) (N := some 58) (v := ?_) (a' := ?_) #[true, true, true, true, true, true, false, false, false, false, false, false, false, false, false, false, false, false, false, false, false, false, false, false, false, false, false] rfl rfl (any_of HT_.out (by kernel_rfl)) (fun _ _ _ h => h) (Or.inl ⟨by rfl, ?_⟩) ?_ ?_
                                                rotate_left
                                                · intro w'
                                                  go_simp
                                                  with_reducible rfl
                                                rotate_left
                                                · simp only [Act.put, List.setIfInBounds_toArray, List.set_cons_zero, List.set_cons_succ, i64_w, i32_w]
                                                  rfl
                                                refine pure_ (i := 8) (N := some 61) (v := ?_) (a' := ?_) #[true, true, true, true, true, true, false, false, true, false, false, false, false, false, false, false, false, false, false, false, false, false, false, false, false, false, false] rfl rfl (any_of HT_.out (by kernel_rfl)) (fun _ _ _ h => h) (Or.inl ⟨by rfl, ?_⟩) ?_ ?_
                                                rotate_left
                                                · intro w'
                                                  go_simp
                                                  with_reducible rfl
                                                rotate_left
                                                · simp only [Act.put, List.setIfInBounds_toArray, List.set_cons_zero, List.set_cons_succ, i64_w, i32_w]
                                                  rfl
                                                refine pure_ (i := 9) (N := some 62) (v := ?_) (a' := ?_) #[true, true, true, true, true, true, false, false, true, true, false, false, false, false, false, false, false, false, false, false, false, false, false, false, false, false, false] rfl rfl (any_of HT_.out (by kernel_rfl)) (fun _ _ _ h => h) (Or.inl ⟨by rfl, ?_⟩) ?_ ?_
                                                rotate_left
                                                · intro w'
                                                  go_simp
                                                  with_reducible rfl
                                                rotate_left
                                                · simp only [Act.put, List.setIfInBounds_toArray, List.set_cons_zero, List.set_cons_succ, i64_w, i32_w]
                                                  rfl
                                                refine pure_ (i := 10) (N := some 63) (v := ?_) (a' := ?_) #[true, true, true, true, true, true, false, false, true, true, true, false, false, false, false, false, false, false, false, false, false, false, false, false, false, false, false] rfl rfl (any_of HT_.out (by kernel_rfl)) (fun _ _ _ h => h) (Or.inl ⟨by rfl, ?_⟩) ?_ ?_
                                                rotate_left
                                                · intro w'
                                                  go_simp
                                                  with_reducible rfl
                                                rotate_left
                                                · simp only [Act.put, List.setIfInBounds_toArray, List.set_cons_zero, List.set_cons_succ, i64_w, i32_w]
                                                  rfl
                                                refine pure_ (i := 11) (N := some 64) (v := ?_) (a' := ?_) #[true, true, true, true, true, true, false, false, true, true, true, true, false, false, false, false, false, false, false, false, false, false, false, false, false, false, false] rfl rfl (any_of HT_.out (by kernel_rfl)) (fun _ _ _ h => h) (Or.inl ⟨by rfl, ?_⟩) ?_ ?_
                                                rotate_left
                                                · intro w'
                                                  go_simp
                                                  with_reducible rfl
                                                rotate_left
                                                · simp only [Act.put, List.setIfInBounds_toArray, List.set_cons_zero, List.set_cons_succ, i64_w, i32_w]
                                                  rfl
                                                refine pure_ (i := 12) (N := some 65) (v := ?_) (a' := ?_) #[true, true, true, true, true, true, false, false, true, true, true, true, true, false, false, false, false, false, false, false, false, false, false, false, false, false, false] rfl rfl (any_of HT_.out (by kernel_rfl)) (fun _ _ _ h => h) (Or.inl ⟨by rfl, ?_⟩) ?_ ?_
                                                rotate_left
                                                · intro w'
                                                  go_simp
                                                  with_reducible rfl
                                                rotate_left
                                                · simp only [Act.put, List.setIfInBounds_toArray, List.set_cons_zero, List.set_cons_succ, i64_w, i32_w]
                                                  rfl
                                                refine pure_ (i := 13) (N := some 66) (v := ?_) (a' := ?_) #[true, true, true, true, true, true, false, false, true, true, true, true, true, true, false, false, false, false, false, false, false, false, false, false, false, false, false] rfl rfl (any_of HT_.out (by kernel_rfl)) (fun _ _ _ h => h) (Or.inl ⟨by rfl, ?_⟩) ?_ ?_
                                                rotate_left
                                                · intro w'
                                                  go_simp
                                                  with_reducible rfl
                                                rotate_left
                                                · simp only [Act.put, List.setIfInBounds_toArray, List.set_cons_zero, List.set_cons_succ, i64_w, i32_w]
                                                  rfl
                                                refine pure_ (i := 14) (N := some 67) (v := ?_) (a' := ?_) #[true, true, true, true, true, true, false, false, true, true, true, true, true, true, true, false, false, false, false, false, false, false, false, false, false, false, false] rfl rfl (any_of HT_.out (by kernel_rfl)) (fun _ _ _ h => h) (Or.inl ⟨by rfl, ?_⟩) ?_ ?_
                                                rotate_left
                                                · intro w'
                                                  go_simp
                                                  with_reducible rfl
                                                rotate_left
                                                · simp only [Act.put, List.setIfInBounds_toArray, List.set_cons_zero, List.set_cons_succ, i64_w, i32_w]
                                                  rfl
                                                refine pure_ (i := 15) (N := some 68) (v := ?_) (a' := ?_) #[true, true, true, true, true, true, false, false, true, true, true, true, true, true, true, true, false, false, false, false, false, false, false, false, false, false, false] rfl rfl (any_of HT_.out (by kernel_rfl)) (fun _ _ _ h => h) (Or.inl ⟨by rfl, ?_⟩) ?_ ?_
                                                rotate_left
                                                · intro w'
                                                  go_simp
                                                  with_reducible rfl
                                                rotate_left
                                                · simp only [Act.put, List.setIfInBounds_toArray, List.set_cons_zero, List.set_cons_succ, i64_w, i32_w]
                                                  rfl
                                                refine pure_ (i := 16) (N := some 69) (v := ?_) (a' := ?_) #[true, true, true, true, true, true, false, false, true, true, true, true, true, true, true, true, true, false, false, false, false, false, false, false, false, false, false] rfl rfl (any_of HT_.out (by kernel_rfl)) (fun _ _ _ h => h) (Or.inl ⟨by rfl, ?_⟩) ?_ ?_
                                                rotate_left
                                                · intro w'
                                                  go_simp
                                                  with_reducible rfl
                                                rotate_left
                                                · simp only [Act.put, List.setIfInBounds_toArray, List.set_cons_zero, List.set_cons_succ, i64_w, i32_w]
                                                  rfl
                                                refine pure_ (i := 17) (N := some 70) (v := ?_) (a' := ?_) #[true, true, true, true, true, true, false, false, true, true, true, true, true, true, true, true, true, true, false, false, false, false, false, false, false, false, false] rfl rfl (any_of HT_.out (by kernel_rfl)) (fun _ _ _ h => h) (Or.inl ⟨by rfl, ?_⟩) ?_ ?_
                                                rotate_left
                                                · intro w'
                                                  go_simp
                                                  with_reducible rfl
                                                rotate_left
                                                · simp only [Act.put, List.setIfInBounds_toArray, List.set_cons_zero, List.set_cons_succ, i64_w, i32_w]
                                                  rfl
                                                refine pure_ (i := 18) (N := some 71) (v := ?_) (a' := ?_) #[true, true, true, true, true, true, false, false, true, true, true, true, true, true, true, true, true, true, true, false, false, false, false, false, false, false, false] rfl rfl (any_of HT_.out (by kernel_rfl)) (fun _ _ _ h => h) (Or.inl ⟨by rfl, ?_⟩) ?_ ?_
                                                rotate_left
                                                · intro w'
                                                  go_simp
                                                  with_reducible rfl
                                                rotate_left
                                                · simp only [Act.put, List.setIfInBounds_toArray, List.set_cons_zero, List.set_cons_succ, i64_w, i32_w]
                                                  rfl
                                                refine pure_ (i := 19) (N := some 72) (v := ?_) (a' := ?_) #[true, true, true, true, true, true, false, false, true, true, true, true, true, true, true, true, true, true, true, true, false, false, false, false, false, false, false] rfl rfl (any_of HT_.out (by kernel_rfl)) (fun _ _ _ h => h) (Or.inl ⟨by rfl, ?_⟩) ?_ ?_
                                                rotate_left
                                                · intro w'
                                                  go_simp
                                                  with_reducible rfl
                                                rotate_left
                                                · simp only [Act.put, List.setIfInBounds_toArray, List.set_cons_zero, List.set_cons_succ, i64_w, i32_w]
                                                  rfl
                                                refine pure_ (i := 20) (N := some 73) (v := ?_) (a' := ?_) #[true, true, true, true, true, true, false, false, true, true, true, true, true, true, true, true, true, true, true, true, true, false, false, false, false, false, false] rfl rfl (any_of HT_.out (by kernel_rfl)) (fun _ _ _ h => h) (Or.inl ⟨by rfl, ?_⟩) ?_ ?_
                                                rotate_left
                                                · intro w'
                                                  go_simp
                                                  with_reducible rfl
                                                rotate_left
                                                · simp only [Act.put, List.setIfInBounds_toArray, List.set_cons_zero, List.set_cons_succ, i64_w, i32_w]
                                                  rfl
                                                refine pure_ (i := 21) (N := some 74) (v := ?_) (a' := ?_) #[true, true, true, true, true, true, false, false, true, true, true, true, true, true, true, true, true, true, true, true, true, true, false, false, false, false, false] rfl rfl (any_of HT_.out (by kernel_rfl)) (fun _ _ _ h => h) (Or.inl ⟨by rfl, ?_⟩) ?_ ?_
                                                rotate_left
                                                · intro w'
                                                  go_simp
                                                  with_reducible rfl
                                                rotate_left
                                                · simp only [Act.put, List.setIfInBounds_toArray, List.set_cons_zero, List.set_cons_succ, i64_w, i32_w]
                                                  rfl
                                                refine pure_ (i := 22) (N := some 75) (v := ?_) (a' := ?_) #[true, true, true, true, true, true, false, false, true, true, true, true, true, true, true, true, true, true, true, true, true, true, true, false, false, false, false] rfl rfl (any_of HT_.out (by kernel_rfl)) (fun _ _ _ h => h) (Or.inl ⟨by rfl, ?_⟩) ?_ ?_
                                                rotate_left
                                                · intro w'
                                                  go_simp
                                                  with_reducible rfl
                                                rotate_left
                                                · simp only [Act.put, List.setIfInBounds_toArray, List.set_cons_zero, List.set_cons_succ, i64_w, i32_w]
                                                  rfl
                                                refine pure_ (i := 23) (N := some 76) (v := ?_) (a' := ?_) #[true, true, true, true, true, true, false, false, true, true, true, true, true, true, true, true, true, true, true, true, true, true, true, true, false, false, false] rfl rfl (any_of HT_.out (by kernel_rfl)) (fun _ _ _ h => h) (Or.inl ⟨by rfl, ?_⟩) ?_ ?_
                                                rotate_left
                                                · intro w'
                                                  go_simp
                                                  with_reducible rfl
                                                rotate_left
                                                · simp only [Act.put, List.setIfInBounds_toArray, List.set_cons_zero, List.set_cons_succ, i64_w, i32_w]
                                                  rfl
                                                refine join_ (σ := Nat) 1 #[true, true, true, true, true, true, true, true, true, true, true, true, true, true, true, true, true, true, true, true, true, true, true, true, true, true, false] (fun s_ => [(59, .int .i64 t161), (9, .pointer (some ⟨s_, 0, none⟩)), (60, .int .i64 (wrap64 (x6_2 + t161))), (77, .agg #[.int .i64 (wrap64 (x6_2 + t161)), .int .i64 (wrap64 (Int.tdiv t160 16)), .int .i64 (Int.tmod (wrap64 (Int.tdiv t160 2)) 8), .bool ((Int.tmod t160 2) == 1), .string (a0.extract ((ji28) : Int).toNat ((wrap64 ((ji28) + t159)) : Int).toNat)])]) (fun s_ w' => (Kd.R k26 26 w' w.heap.size (fun k_ => k_ ≠ s_) u4 x4_2) ∧ (w'.heap[s_]? = some (.cells #[.int .i64 0, .int .i64 0, .int .i64 0, .bool false, .string (⟨#[]⟩ : ByteArray)] 26 (0, 0))) ∧ (w.heap.size ≤ s_) ∧ (w.heap.size ≤ s_) ∧ (Below w.heap.size w w')) ?_ ?_
                                                rotate_left
                                                · intro hCont
                                                  refine two_ (i := 6) (j := 25) (Ni := some 59) (Nj := some 9) #[true, true, true, true, true, true, true, false, true, true, true, true, true, true, true, true, true, true, true, true, true, true, true, true, false, false, false] #[true, true, true, true, true, true, false, false, true, true, true, true, true, true, true, true, true, true, true, true, true, true, true, true, false, true, false] rfl rfl rfl rfl (two_of HT_.out (by kernel_rfl)) (by decide) (by decide) (fun K hK => ?_) (fun K hK => ?_)
                                                  · skip
                                                    refine goes_ Try.func25 (by kernel_rfl) rfl #[.string (a0.extract (x5_2 : Int).toNat ((ji19) : Int).toNat)] (by rfl) rfl rfl (by (try simp only [List.map_toArray, List.map_cons, List.map_nil]); first | done | (simp only [hji19]; rfl) | rfl | (simp only [List.length_drop, List.length_take]; rfl)) ?_
                                                    with_reducible refine (patchbayref4_Small.calls kj15 (a0.extract (x5_2 : Int).toNat ((ji19) : Int).toNat) t161 _ A27.out).mono ?_
                                                    rintro e w' ⟨rfl, ⟨nd, rfl⟩⟩
                                                    refine ⟨_, rfl, ?_⟩
                                                    refine hK.out _ _ trivial (fun hHeld => ?_)
                                                    clear hK K
                                                    refine norm_ (a' := ?_) ?_ ?_
                                                    rotate_left
                                                    · show Act.put _ (some 59) _ = _
                                                      simp only [Act.put, List.setIfInBounds_toArray, List.set_cons_zero, List.set_cons_succ, i64_w, i32_w]
                                                      rfl
                                                    refine pure_ (i := 7) (N := some 60) (v := ?_) (a' := ?_) #[true, true, true, true, true, true, true, true, true, true, true, true, true, true, true, true, true, true, true, true, true, true, true, true, false, false, false] rfl rfl (any_of HT_.out (by kernel_rfl)) (fun _ _ _ h => h) (Or.inl ⟨by rfl, ?_⟩) ?_ ?_
                                                    rotate_left
                                                    · intro w'
                                                      go_simp
                                                      with_reducible rfl
                                                    rotate_left
                                                    · simp only [Act.put, List.setIfInBounds_toArray, List.set_cons_zero, List.set_cons_succ, i64_w, i32_w]
                                                      rfl
                                                    refine pure_ (i := 24) (N := some 77) (v := ?_) (a' := ?_) #[true, true, true, true, true, true, true, true, true, true, true, true, true, true, true, true, true, true, true, true, true, true, true, true, true, false, false] rfl rfl (any_of HT_.out (by kernel_rfl)) (fun _ _ _ h => h) (Or.inl ⟨by rfl, ?_⟩) ?_ ?_
                                                    rotate_left
                                                    · intro w'
                                                      go_simp
                                                      with_reducible rfl
                                                    rotate_left
                                                    · simp only [Act.put, List.setIfInBounds_toArray, List.set_cons_zero, List.set_cons_succ, i64_w, i32_w]
                                                      rfl
                                                    refine one_ (i := 25) (N := some 9) #[true, true, true, true, true, true, true, true, true, true, true, true, true, true, true, true, true, true, true, true, true, true, true, true, true, true, false] rfl rfl (one_of HT_.out (by kernel_rfl)) (by decide) (fun K hK => ?_)
                                                    refine box_step ?hg (N := 9) ?hd (cs := #[.int .i64 0, .int .i64 0, .int .i64 0, .bool false, .string (⟨#[]⟩ : ByteArray)]) (t := 26) ?hr ?_; (case hd => rfl); (case hg => rfl); (case hr => first | (go_simp; done) | (go_simp; rfl))
                                                    intro gb162 hg w34 hbox hb
                                                    have n0_ := Aside0.mk (Kd.R_below (Kd.R_elderB (by (with_reducible repeat (first | apply Kd.R_alloc | apply Kd.R_drewN | apply Kd.R_drew)); exact HO_4.out) gb162 (Nat.le_of_eq hg.symm)) hb)
                                                    have n1_ := Aside0.mk (below_step (by repeat (first | (with_reducible first | exact HB.out | apply below_alloc | apply pw_below_drewN | apply below_drew1) | exact HB.out)) hb)
                                                    have n2_ := Aside0.mk (hbox)
                                                    have n3_ := Aside0.mk ((by rw [hg]; exact (below_size (by repeat (first | (with_reducible first | exact HB.out | apply below_alloc | apply pw_below_drewN | apply below_drew1) | exact HB.out))) : w.heap.size ≤ gb162))
                                                    have n4_ := Aside0.mk ((by rw [hg]; exact (below_size (by repeat (first | (with_reducible first | exact HB.out | apply below_alloc | apply pw_below_drewN | apply below_drew1) | exact HB.out))) : w.heap.size ≤ gb162))
                                                    clear HO_4
                                                    clear HB
                                                    have HO_4 := n0_
                                                    have HB := n1_
                                                    have BK162 := n2_
                                                    have GW162 := n3_
                                                    have GE162 := n4_
                                                    clear n0_ n1_ n2_ n3_ n4_
                                                    clear hb hbox hg
                                                    refine hK.out _ _ trivial (fun hHeld => ?_)
                                                    clear hK K
                                                    refine norm_ (a' := ?_) ?_ ?_
                                                    rotate_left
                                                    · show Act.put _ (some 9) _ = _
                                                      simp only [Act.put, List.setIfInBounds_toArray, List.set_cons_zero, List.set_cons_succ, i64_w, i32_w]
                                                      rfl
                                                    exact norm_ (by simp only [putAll, Act.put, List.setIfInBounds_toArray, List.set_cons_zero, List.set_cons_succ]) (hCont (gb162) _ ⟨(by (with_reducible repeat (first | apply Kd.R_alloc | apply Kd.R_drewN | apply Kd.R_drew)); exact Kd.R_mono HO_4.out (fun _ hk => hk.2)), (by (with_reducible repeat (first | refine blk_drewN ?_ _ | refine blk_drew ?_ | refine blk_alloc ?_ _)); exact BK162.out), GW162.out, GE162.out, (by repeat (first | (with_reducible first | exact HB.out | apply below_alloc | apply pw_below_drewN | apply below_drew1 | refine below_set ?_ GE162.out) | exact HB.out))⟩)
                                                  · skip
                                                    refine box_step ?hg (N := 9) ?hd (cs := #[.int .i64 0, .int .i64 0, .int .i64 0, .bool false, .string (⟨#[]⟩ : ByteArray)]) (t := 26) ?hr ?_; (case hd => rfl); (case hg => rfl); (case hr => first | (go_simp; done) | (go_simp; rfl))
                                                    intro gb162 hg w34 hbox hb
                                                    have n0_ := Aside0.mk (Kd.R_below (Kd.R_elderB (by (with_reducible repeat (first | apply Kd.R_alloc | apply Kd.R_drewN | apply Kd.R_drew)); exact HO_4.out) gb162 (Nat.le_of_eq hg.symm)) hb)
                                                    have n1_ := Aside0.mk (below_step (by repeat (first | (with_reducible first | exact HB.out | apply below_alloc | apply pw_below_drewN | apply below_drew1) | exact HB.out)) hb)
                                                    have n2_ := Aside0.mk (hbox)
                                                    have n3_ := Aside0.mk ((by rw [hg]; exact (below_size (by repeat (first | (with_reducible first | exact HB.out | apply below_alloc | apply pw_below_drewN | apply below_drew1) | exact HB.out))) : w.heap.size ≤ gb162))
                                                    have n4_ := Aside0.mk ((by rw [hg]; exact (below_size (by repeat (first | (with_reducible first | exact HB.out | apply below_alloc | apply pw_below_drewN | apply below_drew1) | exact HB.out))) : w.heap.size ≤ gb162))
                                                    clear HO_4
                                                    clear HB
                                                    have HO_4 := n0_
                                                    have HB := n1_
                                                    have BK162 := n2_
                                                    have GW162 := n3_
                                                    have GE162 := n4_
                                                    clear n0_ n1_ n2_ n3_ n4_
                                                    clear hb hbox hg
                                                    refine hK.out _ _ trivial (fun hHeld => ?_)
                                                    clear hK K
                                                    refine norm_ (a' := ?_) ?_ ?_
                                                    rotate_left
                                                    · show Act.put _ (some 9) _ = _
                                                      simp only [Act.put, List.setIfInBounds_toArray, List.set_cons_zero, List.set_cons_succ, i64_w, i32_w]
                                                      rfl
                                                    refine one_ (i := 6) (N := some 59) #[true, true, true, true, true, true, true, false, true, true, true, true, true, true, true, true, true, true, true, true, true, true, true, true, false, true, false] rfl rfl (one_of HT_.out (by kernel_rfl)) (by decide) (fun K hK => ?_)
                                                    refine goes_ Try.func25 (by kernel_rfl) rfl #[.string (a0.extract (x5_2 : Int).toNat ((ji19) : Int).toNat)] (by rfl) rfl rfl (by (try simp only [List.map_toArray, List.map_cons, List.map_nil]); first | done | (simp only [hji19]; rfl) | rfl | (simp only [List.length_drop, List.length_take]; rfl)) ?_
                                                    with_reducible refine (patchbayref4_Small.calls kj15 (a0.extract (x5_2 : Int).toNat ((ji19) : Int).toNat) t161 _ A27.out).mono ?_
                                                    rintro e w' ⟨rfl, ⟨nd, rfl⟩⟩
                                                    refine ⟨_, rfl, ?_⟩
                                                    refine hK.out _ _ trivial (fun hHeld => ?_)
                                                    clear hK K
                                                    refine norm_ (a' := ?_) ?_ ?_
                                                    rotate_left
                                                    · show Act.put _ (some 59) _ = _
                                                      simp only [Act.put, List.setIfInBounds_toArray, List.set_cons_zero, List.set_cons_succ, i64_w, i32_w]
                                                      rfl
                                                    refine pure_ (i := 7) (N := some 60) (v := ?_) (a' := ?_) #[true, true, true, true, true, true, true, true, true, true, true, true, true, true, true, true, true, true, true, true, true, true, true, true, false, true, false] rfl rfl (any_of HT_.out (by kernel_rfl)) (fun _ _ _ h => h) (Or.inl ⟨by rfl, ?_⟩) ?_ ?_
                                                    rotate_left
                                                    · intro w'
                                                      go_simp
                                                      with_reducible rfl
                                                    rotate_left
                                                    · simp only [Act.put, List.setIfInBounds_toArray, List.set_cons_zero, List.set_cons_succ, i64_w, i32_w]
                                                      rfl
                                                    refine pure_ (i := 24) (N := some 77) (v := ?_) (a' := ?_) #[true, true, true, true, true, true, true, true, true, true, true, true, true, true, true, true, true, true, true, true, true, true, true, true, true, true, false] rfl rfl (any_of HT_.out (by kernel_rfl)) (fun _ _ _ h => h) (Or.inl ⟨by rfl, ?_⟩) ?_ ?_
                                                    rotate_left
                                                    · intro w'
                                                      go_simp
                                                      with_reducible rfl
                                                    rotate_left
                                                    · simp only [Act.put, List.setIfInBounds_toArray, List.set_cons_zero, List.set_cons_succ, i64_w, i32_w]
                                                      rfl
                                                    exact norm_ (by simp only [putAll, Act.put, List.setIfInBounds_toArray, List.set_cons_zero, List.set_cons_succ]) (hCont (gb162) _ ⟨(by (with_reducible repeat (first | apply Kd.R_alloc | apply Kd.R_drewN | apply Kd.R_drew)); exact Kd.R_mono HO_4.out (fun _ hk => hk.2)), (by (with_reducible repeat (first | refine blk_drewN ?_ _ | refine blk_drew ?_ | refine blk_alloc ?_ _)); exact BK162.out), GW162.out, GE162.out, (by repeat (first | (with_reducible first | exact HB.out | apply below_alloc | apply pw_below_drewN | apply below_drew1 | refine below_set ?_ GE162.out) | exact HB.out))⟩)
                                                rintro gb162 w35 ⟨h0_, h1_, h2_, h3_, h4_⟩
                                                have n0_ : Aside0 (Kd.R k26 26 w35 w.heap.size (fun k_ => k_ ≠ gb162) u4 x4_2) := ⟨h0_⟩
                                                have n1_ : Aside0 (w35.heap[gb162]? = some (.cells #[.int .i64 0, .int .i64 0, .int .i64 0, .bool false, .string (⟨#[]⟩ : ByteArray)] 26 (0, 0))) := ⟨h1_⟩
                                                have n2_ : Aside0 (w.heap.size ≤ gb162) := ⟨h2_⟩
                                                have n3_ : Aside0 (w.heap.size ≤ gb162) := ⟨h3_⟩
                                                have n4_ : Aside0 (Below w.heap.size w w35) := ⟨h4_⟩
                                                clear HO_4
                                                clear HB
                                                clear h0_ h1_ h2_ h3_ h4_
                                                have HO_4 := n0_
                                                have BK162 := n1_
                                                have GW162 := n2_
                                                have GE162 := n3_
                                                have HB := n4_
                                                clear n0_ n1_ n2_ n3_ n4_
                                                have hHeld := trivial
                                                refine norm_ (a' := ?_) ?_ ?_
                                                rotate_left
                                                · simp only [putAll, Act.put, List.setIfInBounds_toArray, List.set_cons_zero, List.set_cons_succ]
                                                  rfl
                                                refine one_ (i := 26) (N := none) #[true, true, true, true, true, true, true, true, true, true, true, true, true, true, true, true, true, true, true, true, true, true, true, true, true, true, true] rfl rfl (one_of HT_.out (by kernel_rfl)) (by decide) (fun K hK => ?_)
                                                have hs36 : w35.cell? ⟨gb162, 0, none⟩ = some (.int .i64 0) := (blk_cell BK162.out 0).trans rfl
                                                have hfs36 := blk_frozen BK162.out 0
                                                have hs37 : w35.cell? ⟨gb162, 1, none⟩ = some (.int .i64 0) := (blk_cell BK162.out 1).trans rfl
                                                have hfs37 := blk_frozen BK162.out 1
                                                have hs38 : w35.cell? ⟨gb162, 2, none⟩ = some (.int .i64 0) := (blk_cell BK162.out 2).trans rfl
                                                have hfs38 := blk_frozen BK162.out 2
                                                have hs39 : w35.cell? ⟨gb162, 3, none⟩ = some (.bool false) := (blk_cell BK162.out 3).trans rfl
                                                have hfs39 := blk_frozen BK162.out 3
                                                have hs40 : w35.cell? ⟨gb162, 4, none⟩ = some (.string (⟨#[]⟩ : ByteArray)) := (blk_cell BK162.out 4).trans rfl
                                                have hfs40 := blk_frozen BK162.out 4
                                                refine skip_ (w1 := ?_) (by rfl) rfl ?_ ?_
                                                rotate_left
                                                · go_simp
                                                  rfl
                                                refine hK.out _ _ trivial (fun hHeld => ?_)
                                                clear hK K
                                                refine done_ (done_of HT_.out (by kernel_rfl)) ?_
                                                go_upto_region 10 with (fail)
                                                go_cut [98] (fun v98 wc => ∃ (kq : Nat) (x98_31 : Bool), v98 = .bool x98_31 ∧ Aside0 (patchbayref4_CaptureFront.j4 kq a0 x4_2 x5_2 t159 x98_31 (wrap64 (x6_2 + t161)) (wrap64 (Int.tdiv t160 16)) (Int.tmod (wrap64 (Int.tdiv t160 2)) 8) ((Int.tmod t160 2) == 1) (a0.extract ((ji28) : Int).toNat ((wrap64 ((ji28) + t159)) : Int).toNat) = some (r1, r2)) ∧ Aside0 (kq ≤ kj15) ∧ Aside0 (Kd.R k26 26 wc w.heap.size (fun k_ => k_ ≠ gb162) u4 x4_2) ∧ Aside0 (wc.heap[gb162]? = some (.cells #[.int .i64 (wrap64 (x6_2 + t161)), .int .i64 (wrap64 (Int.tdiv t160 16)), .int .i64 (Int.tmod (wrap64 (Int.tdiv t160 2)) 8), .bool ((Int.tmod t160 2) == 1), .string (a0.extract ((ji28) : Int).toNat ((wrap64 ((ji28) + t159)) : Int).toNat)] 26 (0, 0))) ∧ Aside0 (Below w.heap.size w wc))
                                                case first =>
                                                  have H := HC32.out
                                                  clear HC32
                                                  by_cases c41 : (wrap64 (x6_2 + t161)) > 1000000000
                                                  · rw [if_pos c41] at H
                                                    have c41b0 : decide (1000000000 < (wrap64 (x6_2 + t161))) = true := decide_eq_true c41
                                                    clear c41
                                                    (first | rw [c41b0] | (simp only [i64_w, i32_w]; rw [c41b0]) | skip)
                                                    have H' := Aside0.mk H
                                                    clear H
                                                    try go_wp2
                                                    have n0_ : Aside0 (Kd.R k26 26 (((((w35.setCell ⟨gb162, 0, none⟩ (.int .i64 (wrap64 (x6_2 + t161)))).setCell ⟨gb162, 1, none⟩ (.int .i64 (wrap64 (Int.tdiv t160 16)))).setCell ⟨gb162, 2, none⟩ (.int .i64 (Int.tmod (wrap64 (Int.tdiv t160 2)) 8))).setCell ⟨gb162, 3, none⟩ (.bool ((Int.tmod t160 2) == 1))).setCell ⟨gb162, 4, none⟩ (.string (a0.extract ((ji28) : Int).toNat ((wrap64 ((ji28) + t159)) : Int).toNat))) w.heap.size (fun k_ => k_ ≠ gb162) u4 x4_2) := ⟨by (with_reducible repeat (first | apply Kd.R_alloc | apply Kd.R_drewN | apply Kd.R_drew)); exact Kd.R_mono (Kd.R_far (p := ⟨gb162, 4, none⟩) (Kd.R_far (p := ⟨gb162, 3, none⟩) (Kd.R_far (p := ⟨gb162, 2, none⟩) (Kd.R_far (p := ⟨gb162, 1, none⟩) (Kd.R_far (p := ⟨gb162, 0, none⟩) (Kd.R_mono HO_4.out (fun k_ hk => (⟨hk, hk⟩ : _ ∧ k_ ≠ gb162))) (fun _ hk => hk.2) (.int .i64 (wrap64 (x6_2 + t161)))) (fun _ hk => hk.2) (.int .i64 (wrap64 (Int.tdiv t160 16)))) (fun _ hk => hk.2) (.int .i64 (Int.tmod (wrap64 (Int.tdiv t160 2)) 8))) (fun _ hk => hk.2) (.bool ((Int.tmod t160 2) == 1))) (fun _ hk => hk.2) (.string (a0.extract ((ji28) : Int).toNat ((wrap64 ((ji28) + t159)) : Int).toNat))) (fun _ hk => hk.1)⟩
                                                    have n1_ : Aside0 ((((((w35.setCell ⟨gb162, 0, none⟩ (.int .i64 (wrap64 (x6_2 + t161)))).setCell ⟨gb162, 1, none⟩ (.int .i64 (wrap64 (Int.tdiv t160 16)))).setCell ⟨gb162, 2, none⟩ (.int .i64 (Int.tmod (wrap64 (Int.tdiv t160 2)) 8))).setCell ⟨gb162, 3, none⟩ (.bool ((Int.tmod t160 2) == 1))).setCell ⟨gb162, 4, none⟩ (.string (a0.extract ((ji28) : Int).toNat ((wrap64 ((ji28) + t159)) : Int).toNat))).heap[gb162]? = some (.cells #[.int .i64 (wrap64 (x6_2 + t161)), .int .i64 (wrap64 (Int.tdiv t160 16)), .int .i64 (Int.tmod (wrap64 (Int.tdiv t160 2)) 8), .bool ((Int.tmod t160 2) == 1), .string (a0.extract ((ji28) : Int).toNat ((wrap64 ((ji28) + t159)) : Int).toNat)] 26 (0, 0))) := ⟨by (with_reducible repeat (first | refine blk_drewN ?_ _ | refine blk_drew ?_ | refine blk_alloc ?_ _)); refine blk_put (cs := #[.int .i64 (wrap64 (x6_2 + t161)), .int .i64 (wrap64 (Int.tdiv t160 16)), .int .i64 (Int.tmod (wrap64 (Int.tdiv t160 2)) 8), .bool ((Int.tmod t160 2) == 1), .string (⟨#[]⟩ : ByteArray)]) ?_ 4 _ rfl; (with_reducible repeat (first | refine blk_drewN ?_ _ | refine blk_drew ?_ | refine blk_alloc ?_ _)); refine blk_put (cs := #[.int .i64 (wrap64 (x6_2 + t161)), .int .i64 (wrap64 (Int.tdiv t160 16)), .int .i64 (Int.tmod (wrap64 (Int.tdiv t160 2)) 8), .bool false, .string (⟨#[]⟩ : ByteArray)]) ?_ 3 _ rfl; (with_reducible repeat (first | refine blk_drewN ?_ _ | refine blk_drew ?_ | refine blk_alloc ?_ _)); refine blk_put (cs := #[.int .i64 (wrap64 (x6_2 + t161)), .int .i64 (wrap64 (Int.tdiv t160 16)), .int .i64 0, .bool false, .string (⟨#[]⟩ : ByteArray)]) ?_ 2 _ rfl; (with_reducible repeat (first | refine blk_drewN ?_ _ | refine blk_drew ?_ | refine blk_alloc ?_ _)); refine blk_put (cs := #[.int .i64 (wrap64 (x6_2 + t161)), .int .i64 0, .int .i64 0, .bool false, .string (⟨#[]⟩ : ByteArray)]) ?_ 1 _ rfl; (with_reducible repeat (first | refine blk_drewN ?_ _ | refine blk_drew ?_ | refine blk_alloc ?_ _)); refine blk_put (cs := #[.int .i64 0, .int .i64 0, .int .i64 0, .bool false, .string (⟨#[]⟩ : ByteArray)]) ?_ 0 _ rfl; (with_reducible repeat (first | refine blk_drewN ?_ _ | refine blk_drew ?_ | refine blk_alloc ?_ _)); exact BK162.out⟩
                                                    have n2_ : Aside0 (Below w.heap.size w (((((w35.setCell ⟨gb162, 0, none⟩ (.int .i64 (wrap64 (x6_2 + t161)))).setCell ⟨gb162, 1, none⟩ (.int .i64 (wrap64 (Int.tdiv t160 16)))).setCell ⟨gb162, 2, none⟩ (.int .i64 (Int.tmod (wrap64 (Int.tdiv t160 2)) 8))).setCell ⟨gb162, 3, none⟩ (.bool ((Int.tmod t160 2) == 1))).setCell ⟨gb162, 4, none⟩ (.string (a0.extract ((ji28) : Int).toNat ((wrap64 ((ji28) + t159)) : Int).toNat)))) := ⟨by repeat (first | (with_reducible first | exact HB.out | apply below_alloc | apply pw_below_drewN | apply below_drew1 | refine below_set ?_ GE162.out) | exact HB.out)⟩
                                                    (try clear HO_4)
                                                    (try clear BK162)
                                                    (try clear HB)
                                                    generalize (((((w35.setCell ⟨gb162, 0, none⟩ (.int .i64 (wrap64 (x6_2 + t161)))).setCell ⟨gb162, 1, none⟩ (.int .i64 (wrap64 (Int.tdiv t160 16)))).setCell ⟨gb162, 2, none⟩ (.int .i64 (Int.tmod (wrap64 (Int.tdiv t160 2)) 8))).setCell ⟨gb162, 3, none⟩ (.bool ((Int.tmod t160 2) == 1))).setCell ⟨gb162, 4, none⟩ (.string (a0.extract ((ji28) : Int).toNat ((wrap64 ((ji28) + t159)) : Int).toNat))) = w42 at n0_ n1_ n2_ ⊢
                                                    have HO_4 := n0_
                                                    have BK162 := n1_
                                                    have HB := n2_
                                                    clear n0_ n1_ n2_
                                                    have n0_ := Aside0.mk (Kd.R_drew HO_4.out)
                                                    have n1_ := Aside0.mk (blk_drew BK162.out)
                                                    have n2_ := Aside0.mk (below_drew1 HB.out)
                                                    clear HO_4
                                                    clear BK162
                                                    clear HB
                                                    have HO_4 := n0_
                                                    have BK162 := n1_
                                                    have HB := n2_
                                                    clear n0_ n1_ n2_
                                                    refine start_ (n := 21) (S := fun w' => w'.cell? ⟨gb162, 0, none⟩ = some (.int .i64 (wrap64 (x6_2 + t161))) ∧ w'.cell? ⟨gb162, 1, none⟩ = some (.int .i64 (wrap64 (Int.tdiv t160 16))) ∧ w'.cell? ⟨gb162, 2, none⟩ = some (.int .i64 (Int.tmod (wrap64 (Int.tdiv t160 2)) 8)) ∧ w'.cell? ⟨gb162, 3, none⟩ = some (.bool ((Int.tmod t160 2) == 1)) ∧ w'.cell? ⟨gb162, 4, none⟩ = some (.string (a0.extract ((ji28) : Int).toNat ((wrap64 ((ji28) + t159)) : Int).toNat))) (ds := []) #[false, false, false, false, false, false, false, false, false, false, false, false, false, false, false, false, false, false, false, false, false] (by kernel_rfl) rfl rfl ⟨(blk_cell BK162.out 0).trans rfl, (blk_cell BK162.out 1).trans rfl, (blk_cell BK162.out 2).trans rfl, (blk_cell BK162.out 3).trans rfl, (blk_cell BK162.out 4).trans rfl⟩ (fun hHeld => ?_); refine with_tabW patchbayref4_CaptureFront.tab10 patchbayref4_CaptureFront.bits10 (fun HT_ HW_ => ?_)
                                                    generalize w42.drew = w43 at HO_4 BK162 HB hHeld ⊢
                                                    refine pure_ (i := 0) (N := some 78) (v := ?_) (a' := ?_) #[true, false, false, false, false, false, false, false, false, false, false, false, false, false, false, false, false, false, false, false, false] rfl rfl (any_of HT_.out (by kernel_rfl)) (fun _ _ _ h => h) (Or.inl ⟨by rfl, ?_⟩) ?_ ?_
                                                    rotate_left
                                                    · intro w'
                                                      go_simp
                                                      with_reducible rfl
                                                    rotate_left
                                                    · simp only [Act.put, List.setIfInBounds_toArray, List.set_cons_zero, List.set_cons_succ, i64_w, i32_w]
                                                      rfl
                                                    refine take_ (i := 1) (N := some 79) (v := ?_) (a' := ?_) #[true, true, false, false, false, false, false, false, false, false, false, false, false, false, false, false, false, false, false, false, false] rfl rfl (take_ofW HT_.out HW_.out (by kernel_rfl)) (fun _ _ _ h => h) (Or.inl ⟨by rfl, ?_⟩) hHeld ?_ ?_
                                                    rotate_left
                                                    · rintro w' ⟨s0, s1, s2, s3, s4⟩
                                                      go_simp
                                                      with_reducible rfl
                                                    rotate_left
                                                    · simp only [Act.put, List.setIfInBounds_toArray, List.set_cons_zero, List.set_cons_succ, i64_w, i32_w]
                                                      rfl
                                                    refine pure_ (i := 2) (N := some 80) (v := ?_) (a' := ?_) #[true, true, true, false, false, false, false, false, false, false, false, false, false, false, false, false, false, false, false, false, false] rfl rfl (any_of HT_.out (by kernel_rfl)) (fun _ _ _ h => h) (Or.inl ⟨by rfl, ?_⟩) ?_ ?_
                                                    rotate_left
                                                    · intro w'
                                                      go_simp
                                                      with_reducible rfl
                                                    rotate_left
                                                    · simp only [Act.put, List.setIfInBounds_toArray, List.set_cons_zero, List.set_cons_succ, i64_w, i32_w]
                                                      rfl
                                                    refine pure_ (i := 3) (N := some 81) (v := ?_) (a' := ?_) #[true, true, true, true, false, false, false, false, false, false, false, false, false, false, false, false, false, false, false, false, false] rfl rfl (any_of HT_.out (by kernel_rfl)) (fun _ _ _ h => h) (Or.inl ⟨by rfl, ?_⟩) ?_ ?_
                                                    rotate_left
                                                    · intro w'
                                                      go_simp
                                                      with_reducible rfl
                                                    rotate_left
                                                    · simp only [Act.put, List.setIfInBounds_toArray, List.set_cons_zero, List.set_cons_succ, i64_w, i32_w]
                                                      rfl
                                                    refine pure_ (i := 4) (N := some 82) (v := undef) (a' := ?_) #[true, true, true, true, true, false, false, false, false, false, false, false, false, false, false, false, false, false, false, false, false] rfl rfl (any_of HT_.out (by kernel_rfl)) (fun _ _ _ h => h) (Or.inr ⟨by rfl, rfl⟩) ?_ ?_
                                                    rotate_left
                                                    · simp only [Act.put, List.setIfInBounds_toArray, List.set_cons_zero, List.set_cons_succ, i64_w, i32_w]
                                                      rfl
                                                    refine pure_ (i := 5) (N := some 83) (v := undef) (a' := ?_) #[true, true, true, true, true, true, false, false, false, false, false, false, false, false, false, false, false, false, false, false, false] rfl rfl (any_of HT_.out (by kernel_rfl)) (fun _ _ _ h => h) (Or.inr ⟨by rfl, rfl⟩) ?_ ?_
                                                    rotate_left
                                                    · simp only [Act.put, List.setIfInBounds_toArray, List.set_cons_zero, List.set_cons_succ, i64_w, i32_w]
                                                      rfl
                                                    refine pure_ (i := 6) (N := some 84) (v := undef) (a' := ?_) #[true, true, true, true, true, true, true, false, false, false, false, false, false, false, false, false, false, false, false, false, false] rfl rfl (any_of HT_.out (by kernel_rfl)) (fun _ _ _ h => h) (Or.inr ⟨by rfl, rfl⟩) ?_ ?_
                                                    rotate_left
                                                    · simp only [Act.put, List.setIfInBounds_toArray, List.set_cons_zero, List.set_cons_succ, i64_w, i32_w]
                                                      rfl
                                                    refine pure_ (i := 7) (N := some 85) (v := ?_) (a' := ?_) #[true, true, true, true, true, true, true, true, false, false, false, false, false, false, false, false, false, false, false, false, false] rfl rfl (any_of HT_.out (by kernel_rfl)) (fun _ _ _ h => h) (Or.inl ⟨by rfl, ?_⟩) ?_ ?_
                                                    rotate_left
                                                    · intro w'
                                                      go_simp
                                                      with_reducible rfl
                                                    rotate_left
                                                    · simp only [Act.put, List.setIfInBounds_toArray, List.set_cons_zero, List.set_cons_succ, i64_w, i32_w]
                                                      rfl
                                                    refine pure_ (i := 8) (N := some 86) (v := ?_) (a' := ?_) #[true, true, true, true, true, true, true, true, true, false, false, false, false, false, false, false, false, false, false, false, false] rfl rfl (any_of HT_.out (by kernel_rfl)) (fun _ _ _ h => h) (Or.inl ⟨by rfl, ?_⟩) ?_ ?_
                                                    rotate_left
                                                    · intro w'
                                                      go_simp
                                                      with_reducible rfl
                                                    rotate_left
                                                    · simp only [Act.put, List.setIfInBounds_toArray, List.set_cons_zero, List.set_cons_succ, i64_w, i32_w]
                                                      rfl
                                                    refine pure_ (i := 9) (N := some 87) (v := undef) (a' := ?_) #[true, true, true, true, true, true, true, true, true, true, false, false, false, false, false, false, false, false, false, false, false] rfl rfl (any_of HT_.out (by kernel_rfl)) (fun _ _ _ h => h) (Or.inr ⟨by rfl, rfl⟩) ?_ ?_
                                                    rotate_left
                                                    · simp only [Act.put, List.setIfInBounds_toArray, List.set_cons_zero, List.set_cons_succ, i64_w, i32_w]
                                                      rfl
                                                    refine pure_ (i := 10) (N := some 88) (v := undef) (a' := ?_) #[true, true, true, true, true, true, true, true, true, true, true, false, false, false, false, false, false, false, false, false, false] rfl rfl (any_of HT_.out (by kernel_rfl)) (fun _ _ _ h => h) (Or.inr ⟨by rfl, rfl⟩) ?_ ?_
                                                    rotate_left
                                                    · simp only [Act.put, List.setIfInBounds_toArray, List.set_cons_zero, List.set_cons_succ, i64_w, i32_w]
                                                      rfl
                                                    refine pure_ (i := 11) (N := some 89) (v := undef) (a' := ?_) #[true, true, true, true, true, true, true, true, true, true, true, true, false, false, false, false, false, false, false, false, false] rfl rfl (any_of HT_.out (by kernel_rfl)) (fun _ _ _ h => h) (Or.inr ⟨by rfl, rfl⟩) ?_ ?_
                                                    rotate_left
                                                    · simp only [Act.put, List.setIfInBounds_toArray, List.set_cons_zero, List.set_cons_succ, i64_w, i32_w]
                                                      rfl
                                                    refine pure_ (i := 12) (N := some 90) (v := undef) (a' := ?_) #[true, true, true, true, true, true, true, true, true, true, true, true, true, false, false, false, false, false, false, false, false] rfl rfl (any_of HT_.out (by kernel_rfl)) (fun _ _ _ h => h) (Or.inr ⟨by rfl, rfl⟩) ?_ ?_
                                                    rotate_left
                                                    · simp only [Act.put, List.setIfInBounds_toArray, List.set_cons_zero, List.set_cons_succ, i64_w, i32_w]
                                                      rfl
                                                    refine pure_ (i := 13) (N := some 91) (v := undef) (a' := ?_) #[true, true, true, true, true, true, true, true, true, true, true, true, true, true, false, false, false, false, false, false, false] rfl rfl (any_of HT_.out (by kernel_rfl)) (fun _ _ _ h => h) (Or.inr ⟨by rfl, rfl⟩) ?_ ?_
                                                    rotate_left
                                                    · simp only [Act.put, List.setIfInBounds_toArray, List.set_cons_zero, List.set_cons_succ, i64_w, i32_w]
                                                      rfl
                                                    refine pure_ (i := 14) (N := some 92) (v := undef) (a' := ?_) #[true, true, true, true, true, true, true, true, true, true, true, true, true, true, true, false, false, false, false, false, false] rfl rfl (any_of HT_.out (by kernel_rfl)) (fun _ _ _ h => h) (Or.inr ⟨by rfl, rfl⟩) ?_ ?_
                                                    rotate_left
                                                    · simp only [Act.put, List.setIfInBounds_toArray, List.set_cons_zero, List.set_cons_succ, i64_w, i32_w]
                                                      rfl
                                                    refine pure_ (i := 15) (N := some 93) (v := undef) (a' := ?_) #[true, true, true, true, true, true, true, true, true, true, true, true, true, true, true, true, false, false, false, false, false] rfl rfl (any_of HT_.out (by kernel_rfl)) (fun _ _ _ h => h) (Or.inr ⟨by rfl, rfl⟩) ?_ ?_
                                                    rotate_left
                                                    · simp only [Act.put, List.setIfInBounds_toArray, List.set_cons_zero, List.set_cons_succ, i64_w, i32_w]
                                                      rfl
                                                    refine pure_ (i := 16) (N := some 94) (v := undef) (a' := ?_) #[true, true, true, true, true, true, true, true, true, true, true, true, true, true, true, true, true, false, false, false, false] rfl rfl (any_of HT_.out (by kernel_rfl)) (fun _ _ _ h => h) (Or.inr ⟨by rfl, rfl⟩) ?_ ?_
                                                    rotate_left
                                                    · simp only [Act.put, List.setIfInBounds_toArray, List.set_cons_zero, List.set_cons_succ, i64_w, i32_w]
                                                      rfl
                                                    refine pure_ (i := 17) (N := some 95) (v := undef) (a' := ?_) #[true, true, true, true, true, true, true, true, true, true, true, true, true, true, true, true, true, true, false, false, false] rfl rfl (any_of HT_.out (by kernel_rfl)) (fun _ _ _ h => h) (Or.inr ⟨by rfl, rfl⟩) ?_ ?_
                                                    rotate_left
                                                    · simp only [Act.put, List.setIfInBounds_toArray, List.set_cons_zero, List.set_cons_succ, i64_w, i32_w]
                                                      rfl
                                                    refine pure_ (i := 18) (N := some 96) (v := undef) (a' := ?_) #[true, true, true, true, true, true, true, true, true, true, true, true, true, true, true, true, true, true, true, false, false] rfl rfl (any_of HT_.out (by kernel_rfl)) (fun _ _ _ h => h) (Or.inr ⟨by rfl, rfl⟩) ?_ ?_
                                                    rotate_left
                                                    · simp only [Act.put, List.setIfInBounds_toArray, List.set_cons_zero, List.set_cons_succ, i64_w, i32_w]
                                                      rfl
                                                    refine pure_ (i := 19) (N := some 97) (v := undef) (a' := ?_) #[true, true, true, true, true, true, true, true, true, true, true, true, true, true, true, true, true, true, true, true, false] rfl rfl (any_of HT_.out (by kernel_rfl)) (fun _ _ _ h => h) (Or.inr ⟨by rfl, rfl⟩) ?_ ?_
                                                    rotate_left
                                                    · simp only [Act.put, List.setIfInBounds_toArray, List.set_cons_zero, List.set_cons_succ, i64_w, i32_w]
                                                      rfl
                                                    refine pure_ (i := 20) (N := some 98) (v := ?_) (a' := ?_) #[true, true, true, true, true, true, true, true, true, true, true, true, true, true, true, true, true, true, true, true, true] rfl rfl (any_of HT_.out (by kernel_rfl)) (fun _ _ _ h => h) (Or.inl ⟨by rfl, ?_⟩) ?_ ?_
                                                    rotate_left
                                                    · intro w'
                                                      go_simp
                                                      with_reducible rfl
                                                    rotate_left
                                                    · simp only [Act.put, List.setIfInBounds_toArray, List.set_cons_zero, List.set_cons_succ, i64_w, i32_w]
                                                      rfl
                                                    refine done_ (done_of HT_.out (by kernel_rfl)) ?_
                                                    try go_wp2
                                                    go_meet
                                                    case rel => exact ⟨_, (true), (by first | rfl | (simp; done) | (simp [*]; done)), (by first | exact H' | (subst_vars; exact H')), ⟨by have := HJ1.out; have := HK2.out; have := HJ6.out; have := HJ15.out; first | omega | exact Nat.le_refl _⟩, ⟨by (with_reducible repeat (first | apply Kd.R_alloc | apply Kd.R_drewN | apply Kd.R_drew)); exact HO_4.out⟩, ⟨by (with_reducible repeat (first | refine blk_drewN ?_ _ | refine blk_drew ?_ | refine blk_alloc ?_ _)); exact BK162.out⟩, ⟨by repeat (first | (with_reducible first | exact HB.out | apply below_alloc | apply pw_below_drewN | apply below_drew1 | refine below_set ?_ GE162.out) | exact HB.out)⟩⟩
                                                  · rw [if_neg c41] at H
                                                    have c41b0 : decide (1000000000 < (wrap64 (x6_2 + t161))) = false := decide_eq_false c41
                                                    clear c41
                                                    (first | rw [c41b0] | (simp only [i64_w, i32_w]; rw [c41b0]) | skip)
                                                    by_cases c44 : (wrap64 (Int.tdiv t160 16)) > 15
                                                    · rw [if_pos c44] at H
                                                      have c44b0 : decide (15 < (wrap64 (Int.tdiv t160 16))) = true := decide_eq_true c44
                                                      clear c44
                                                      have H' := Aside0.mk H
                                                      clear H
                                                      try go_wp2
                                                      have n0_ : Aside0 (Kd.R k26 26 (((((w35.setCell ⟨gb162, 0, none⟩ (.int .i64 (wrap64 (x6_2 + t161)))).setCell ⟨gb162, 1, none⟩ (.int .i64 (wrap64 (Int.tdiv t160 16)))).setCell ⟨gb162, 2, none⟩ (.int .i64 (Int.tmod (wrap64 (Int.tdiv t160 2)) 8))).setCell ⟨gb162, 3, none⟩ (.bool ((Int.tmod t160 2) == 1))).setCell ⟨gb162, 4, none⟩ (.string (a0.extract ((ji28) : Int).toNat ((wrap64 ((ji28) + t159)) : Int).toNat))) w.heap.size (fun k_ => k_ ≠ gb162) u4 x4_2) := ⟨by (with_reducible repeat (first | apply Kd.R_alloc | apply Kd.R_drewN | apply Kd.R_drew)); exact Kd.R_mono (Kd.R_far (p := ⟨gb162, 4, none⟩) (Kd.R_far (p := ⟨gb162, 3, none⟩) (Kd.R_far (p := ⟨gb162, 2, none⟩) (Kd.R_far (p := ⟨gb162, 1, none⟩) (Kd.R_far (p := ⟨gb162, 0, none⟩) (Kd.R_mono HO_4.out (fun k_ hk => (⟨hk, hk⟩ : _ ∧ k_ ≠ gb162))) (fun _ hk => hk.2) (.int .i64 (wrap64 (x6_2 + t161)))) (fun _ hk => hk.2) (.int .i64 (wrap64 (Int.tdiv t160 16)))) (fun _ hk => hk.2) (.int .i64 (Int.tmod (wrap64 (Int.tdiv t160 2)) 8))) (fun _ hk => hk.2) (.bool ((Int.tmod t160 2) == 1))) (fun _ hk => hk.2) (.string (a0.extract ((ji28) : Int).toNat ((wrap64 ((ji28) + t159)) : Int).toNat))) (fun _ hk => hk.1)⟩
                                                      have n1_ : Aside0 ((((((w35.setCell ⟨gb162, 0, none⟩ (.int .i64 (wrap64 (x6_2 + t161)))).setCell ⟨gb162, 1, none⟩ (.int .i64 (wrap64 (Int.tdiv t160 16)))).setCell ⟨gb162, 2, none⟩ (.int .i64 (Int.tmod (wrap64 (Int.tdiv t160 2)) 8))).setCell ⟨gb162, 3, none⟩ (.bool ((Int.tmod t160 2) == 1))).setCell ⟨gb162, 4, none⟩ (.string (a0.extract ((ji28) : Int).toNat ((wrap64 ((ji28) + t159)) : Int).toNat))).heap[gb162]? = some (.cells #[.int .i64 (wrap64 (x6_2 + t161)), .int .i64 (wrap64 (Int.tdiv t160 16)), .int .i64 (Int.tmod (wrap64 (Int.tdiv t160 2)) 8), .bool ((Int.tmod t160 2) == 1), .string (a0.extract ((ji28) : Int).toNat ((wrap64 ((ji28) + t159)) : Int).toNat)] 26 (0, 0))) := ⟨by (with_reducible repeat (first | refine blk_drewN ?_ _ | refine blk_drew ?_ | refine blk_alloc ?_ _)); refine blk_put (cs := #[.int .i64 (wrap64 (x6_2 + t161)), .int .i64 (wrap64 (Int.tdiv t160 16)), .int .i64 (Int.tmod (wrap64 (Int.tdiv t160 2)) 8), .bool ((Int.tmod t160 2) == 1), .string (⟨#[]⟩ : ByteArray)]) ?_ 4 _ rfl; (with_reducible repeat (first | refine blk_drewN ?_ _ | refine blk_drew ?_ | refine blk_alloc ?_ _)); refine blk_put (cs := #[.int .i64 (wrap64 (x6_2 + t161)), .int .i64 (wrap64 (Int.tdiv t160 16)), .int .i64 (Int.tmod (wrap64 (Int.tdiv t160 2)) 8), .bool false, .string (⟨#[]⟩ : ByteArray)]) ?_ 3 _ rfl; (with_reducible repeat (first | refine blk_drewN ?_ _ | refine blk_drew ?_ | refine blk_alloc ?_ _)); refine blk_put (cs := #[.int .i64 (wrap64 (x6_2 + t161)), .int .i64 (wrap64 (Int.tdiv t160 16)), .int .i64 0, .bool false, .string (⟨#[]⟩ : ByteArray)]) ?_ 2 _ rfl; (with_reducible repeat (first | refine blk_drewN ?_ _ | refine blk_drew ?_ | refine blk_alloc ?_ _)); refine blk_put (cs := #[.int .i64 (wrap64 (x6_2 + t161)), .int .i64 0, .int .i64 0, .bool false, .string (⟨#[]⟩ : ByteArray)]) ?_ 1 _ rfl; (with_reducible repeat (first | refine blk_drewN ?_ _ | refine blk_drew ?_ | refine blk_alloc ?_ _)); refine blk_put (cs := #[.int .i64 0, .int .i64 0, .int .i64 0, .bool false, .string (⟨#[]⟩ : ByteArray)]) ?_ 0 _ rfl; (with_reducible repeat (first | refine blk_drewN ?_ _ | refine blk_drew ?_ | refine blk_alloc ?_ _)); exact BK162.out⟩
                                                      have n2_ : Aside0 (Below w.heap.size w (((((w35.setCell ⟨gb162, 0, none⟩ (.int .i64 (wrap64 (x6_2 + t161)))).setCell ⟨gb162, 1, none⟩ (.int .i64 (wrap64 (Int.tdiv t160 16)))).setCell ⟨gb162, 2, none⟩ (.int .i64 (Int.tmod (wrap64 (Int.tdiv t160 2)) 8))).setCell ⟨gb162, 3, none⟩ (.bool ((Int.tmod t160 2) == 1))).setCell ⟨gb162, 4, none⟩ (.string (a0.extract ((ji28) : Int).toNat ((wrap64 ((ji28) + t159)) : Int).toNat)))) := ⟨by repeat (first | (with_reducible first | exact HB.out | apply below_alloc | apply pw_below_drewN | apply below_drew1 | refine below_set ?_ GE162.out) | exact HB.out)⟩
                                                      (try clear HO_4)
                                                      (try clear BK162)
                                                      (try clear HB)
                                                      generalize (((((w35.setCell ⟨gb162, 0, none⟩ (.int .i64 (wrap64 (x6_2 + t161)))).setCell ⟨gb162, 1, none⟩ (.int .i64 (wrap64 (Int.tdiv t160 16)))).setCell ⟨gb162, 2, none⟩ (.int .i64 (Int.tmod (wrap64 (Int.tdiv t160 2)) 8))).setCell ⟨gb162, 3, none⟩ (.bool ((Int.tmod t160 2) == 1))).setCell ⟨gb162, 4, none⟩ (.string (a0.extract ((ji28) : Int).toNat ((wrap64 ((ji28) + t159)) : Int).toNat))) = w45 at n0_ n1_ n2_ ⊢
                                                      have HO_4 := n0_
                                                      have BK162 := n1_
                                                      have HB := n2_
                                                      clear n0_ n1_ n2_
                                                      have n0_ := Aside0.mk (Kd.R_drew HO_4.out)
                                                      have n1_ := Aside0.mk (blk_drew BK162.out)
                                                      have n2_ := Aside0.mk (below_drew1 HB.out)
                                                      clear HO_4
                                                      clear BK162
                                                      clear HB
                                                      have HO_4 := n0_
                                                      have BK162 := n1_
                                                      have HB := n2_
                                                      clear n0_ n1_ n2_
                                                      refine start_ (n := 21) (S := fun w' => w'.cell? ⟨gb162, 0, none⟩ = some (.int .i64 (wrap64 (x6_2 + t161))) ∧ w'.cell? ⟨gb162, 1, none⟩ = some (.int .i64 (wrap64 (Int.tdiv t160 16))) ∧ w'.cell? ⟨gb162, 2, none⟩ = some (.int .i64 (Int.tmod (wrap64 (Int.tdiv t160 2)) 8)) ∧ w'.cell? ⟨gb162, 3, none⟩ = some (.bool ((Int.tmod t160 2) == 1)) ∧ w'.cell? ⟨gb162, 4, none⟩ = some (.string (a0.extract ((ji28) : Int).toNat ((wrap64 ((ji28) + t159)) : Int).toNat))) (ds := []) #[false, false, false, false, false, false, false, false, false, false, false, false, false, false, false, false, false, false, false, false, false] (by kernel_rfl) rfl rfl ⟨(blk_cell BK162.out 0).trans rfl, (blk_cell BK162.out 1).trans rfl, (blk_cell BK162.out 2).trans rfl, (blk_cell BK162.out 3).trans rfl, (blk_cell BK162.out 4).trans rfl⟩ (fun hHeld => ?_); refine with_tabW patchbayref4_CaptureFront.tab10 patchbayref4_CaptureFront.bits10 (fun HT_ HW_ => ?_)
                                                      generalize w45.drew = w46 at HO_4 BK162 HB hHeld ⊢
                                                      refine pure_ (i := 0) (N := some 78) (v := ?_) (a' := ?_) #[true, false, false, false, false, false, false, false, false, false, false, false, false, false, false, false, false, false, false, false, false] rfl rfl (any_of HT_.out (by kernel_rfl)) (fun _ _ _ h => h) (Or.inl ⟨by rfl, ?_⟩) ?_ ?_
                                                      rotate_left
                                                      · intro w'
                                                        go_simp
                                                        with_reducible rfl
                                                      rotate_left
                                                      · simp only [Act.put, List.setIfInBounds_toArray, List.set_cons_zero, List.set_cons_succ, i64_w, i32_w]
                                                        rfl
                                                      refine take_ (i := 1) (N := some 79) (v := ?_) (a' := ?_) #[true, true, false, false, false, false, false, false, false, false, false, false, false, false, false, false, false, false, false, false, false] rfl rfl (take_ofW HT_.out HW_.out (by kernel_rfl)) (fun _ _ _ h => h) (Or.inl ⟨by rfl, ?_⟩) hHeld ?_ ?_
                                                      rotate_left
                                                      · rintro w' ⟨s0, s1, s2, s3, s4⟩
                                                        go_simp
                                                        with_reducible rfl
                                                      rotate_left
                                                      · simp only [Act.put, List.setIfInBounds_toArray, List.set_cons_zero, List.set_cons_succ, i64_w, i32_w]
                                                        rfl
                                                      refine pure_ (i := 2) (N := some 80) (v := ?_) (a' := ?_) #[true, true, true, false, false, false, false, false, false, false, false, false, false, false, false, false, false, false, false, false, false] rfl rfl (any_of HT_.out (by kernel_rfl)) (fun _ _ _ h => h) (Or.inl ⟨by rfl, ?_⟩) ?_ ?_
                                                      rotate_left
                                                      · intro w'
                                                        go_simp
                                                        with_reducible rfl
                                                      rotate_left
                                                      · simp only [Act.put, List.setIfInBounds_toArray, List.set_cons_zero, List.set_cons_succ, i64_w, i32_w]
                                                        rfl
                                                      refine pure_ (i := 3) (N := some 81) (v := ?_) (a' := ?_) #[true, true, true, true, false, false, false, false, false, false, false, false, false, false, false, false, false, false, false, false, false] rfl rfl (any_of HT_.out (by kernel_rfl)) (fun _ _ _ h => h) (Or.inl ⟨by rfl, ?_⟩) ?_ ?_
                                                      rotate_left
                                                      · intro w'
                                                        go_simp
                                                        with_reducible rfl
                                                      rotate_left
                                                      · simp only [Act.put, List.setIfInBounds_toArray, List.set_cons_zero, List.set_cons_succ, i64_w, i32_w]
                                                        rfl
                                                      refine pure_ (i := 4) (N := some 82) (v := ?_) (a' := ?_) #[true, true, true, true, true, false, false, false, false, false, false, false, false, false, false, false, false, false, false, false, false] rfl rfl (any_of HT_.out (by kernel_rfl)) (fun _ _ _ h => h) (Or.inl ⟨by rfl, ?_⟩) ?_ ?_
                                                      rotate_left
                                                      · intro w'
                                                        go_simp
                                                        with_reducible rfl
                                                      rotate_left
                                                      · simp only [Act.put, List.setIfInBounds_toArray, List.set_cons_zero, List.set_cons_succ, i64_w, i32_w]
                                                        rfl
                                                      refine take_ (i := 5) (N := some 83) (v := ?_) (a' := ?_) #[true, true, true, true, true, true, false, false, false, false, false, false, false, false, false, false, false, false, false, false, false] rfl rfl (take_ofW HT_.out HW_.out (by kernel_rfl)) (fun _ _ _ h => h) (Or.inl ⟨by rfl, ?_⟩) hHeld ?_ ?_
                                                      rotate_left
                                                      · rintro w' ⟨s0, s1, s2, s3, s4⟩
                                                        go_simp
                                                        with_reducible rfl
                                                      rotate_left
                                                      · simp only [Act.put, List.setIfInBounds_toArray, List.set_cons_zero, List.set_cons_succ, i64_w, i32_w]
                                                        rfl
                                                      refine pure_ (i := 6) (N := some 84) (v := ?_) (a' := ?_) #[true, true, true, true, true, true, true, false, false, false, false, false, false, false, false, false, false, false, false, false, false] rfl rfl (any_of HT_.out (by kernel_rfl)) (fun _ _ _ h => h) (Or.inl ⟨by rfl, ?_⟩) ?_ ?_
                                                      rotate_left
                                                      · intro w'
                                                        go_simp
                                                        with_reducible rfl
                                                      rotate_left
                                                      · simp only [Act.put, List.setIfInBounds_toArray, List.set_cons_zero, List.set_cons_succ, i64_w, i32_w]
                                                        rfl
                                                      refine pure_ (i := 7) (N := some 85) (v := ?_) (a' := ?_) #[true, true, true, true, true, true, true, true, false, false, false, false, false, false, false, false, false, false, false, false, false] rfl rfl (any_of HT_.out (by kernel_rfl)) (fun _ _ _ h => h) (Or.inl ⟨by rfl, ?_⟩) ?_ ?_
                                                      rotate_left
                                                      · intro w'
                                                        go_simp
                                                        with_reducible rfl
                                                      rotate_left
                                                      · simp only [Act.put, List.setIfInBounds_toArray, List.set_cons_zero, List.set_cons_succ, i64_w, i32_w]
                                                        rfl
                                                      refine pure_ (i := 8) (N := some 86) (v := ?_) (a' := ?_) #[true, true, true, true, true, true, true, true, true, false, false, false, false, false, false, false, false, false, false, false, false] rfl rfl (any_of HT_.out (by kernel_rfl)) (fun _ _ _ h => h) (Or.inl ⟨by rfl, ?_⟩) ?_ ?_
                                                      rotate_left
                                                      · intro w'
                                                        go_simp
                                                        with_reducible rfl
                                                      rotate_left
                                                      · simp only [Act.put, List.setIfInBounds_toArray, List.set_cons_zero, List.set_cons_succ, i64_w, i32_w]
                                                        rfl
                                                      refine pure_ (i := 9) (N := some 87) (v := undef) (a' := ?_) #[true, true, true, true, true, true, true, true, true, true, false, false, false, false, false, false, false, false, false, false, false] rfl rfl (any_of HT_.out (by kernel_rfl)) (fun _ _ _ h => h) (Or.inr ⟨by rfl, rfl⟩) ?_ ?_
                                                      rotate_left
                                                      · simp only [Act.put, List.setIfInBounds_toArray, List.set_cons_zero, List.set_cons_succ, i64_w, i32_w]
                                                        rfl
                                                      refine pure_ (i := 10) (N := some 88) (v := undef) (a' := ?_) #[true, true, true, true, true, true, true, true, true, true, true, false, false, false, false, false, false, false, false, false, false] rfl rfl (any_of HT_.out (by kernel_rfl)) (fun _ _ _ h => h) (Or.inr ⟨by rfl, rfl⟩) ?_ ?_
                                                      rotate_left
                                                      · simp only [Act.put, List.setIfInBounds_toArray, List.set_cons_zero, List.set_cons_succ, i64_w, i32_w]
                                                        rfl
                                                      refine pure_ (i := 11) (N := some 89) (v := undef) (a' := ?_) #[true, true, true, true, true, true, true, true, true, true, true, true, false, false, false, false, false, false, false, false, false] rfl rfl (any_of HT_.out (by kernel_rfl)) (fun _ _ _ h => h) (Or.inr ⟨by rfl, rfl⟩) ?_ ?_
                                                      rotate_left
                                                      · simp only [Act.put, List.setIfInBounds_toArray, List.set_cons_zero, List.set_cons_succ, i64_w, i32_w]
                                                        rfl
                                                      refine pure_ (i := 12) (N := some 90) (v := undef) (a' := ?_) #[true, true, true, true, true, true, true, true, true, true, true, true, true, false, false, false, false, false, false, false, false] rfl rfl (any_of HT_.out (by kernel_rfl)) (fun _ _ _ h => h) (Or.inr ⟨by rfl, rfl⟩) ?_ ?_
                                                      rotate_left
                                                      · simp only [Act.put, List.setIfInBounds_toArray, List.set_cons_zero, List.set_cons_succ, i64_w, i32_w]
                                                        rfl
                                                      refine pure_ (i := 13) (N := some 91) (v := undef) (a' := ?_) #[true, true, true, true, true, true, true, true, true, true, true, true, true, true, false, false, false, false, false, false, false] rfl rfl (any_of HT_.out (by kernel_rfl)) (fun _ _ _ h => h) (Or.inr ⟨by rfl, rfl⟩) ?_ ?_
                                                      rotate_left
                                                      · simp only [Act.put, List.setIfInBounds_toArray, List.set_cons_zero, List.set_cons_succ, i64_w, i32_w]
                                                        rfl
                                                      refine pure_ (i := 14) (N := some 92) (v := undef) (a' := ?_) #[true, true, true, true, true, true, true, true, true, true, true, true, true, true, true, false, false, false, false, false, false] rfl rfl (any_of HT_.out (by kernel_rfl)) (fun _ _ _ h => h) (Or.inr ⟨by rfl, rfl⟩) ?_ ?_
                                                      rotate_left
                                                      · simp only [Act.put, List.setIfInBounds_toArray, List.set_cons_zero, List.set_cons_succ, i64_w, i32_w]
                                                        rfl
                                                      refine pure_ (i := 15) (N := some 93) (v := undef) (a' := ?_) #[true, true, true, true, true, true, true, true, true, true, true, true, true, true, true, true, false, false, false, false, false] rfl rfl (any_of HT_.out (by kernel_rfl)) (fun _ _ _ h => h) (Or.inr ⟨by rfl, rfl⟩) ?_ ?_
                                                      rotate_left
                                                      · simp only [Act.put, List.setIfInBounds_toArray, List.set_cons_zero, List.set_cons_succ, i64_w, i32_w]
                                                        rfl
                                                      refine pure_ (i := 16) (N := some 94) (v := undef) (a' := ?_) #[true, true, true, true, true, true, true, true, true, true, true, true, true, true, true, true, true, false, false, false, false] rfl rfl (any_of HT_.out (by kernel_rfl)) (fun _ _ _ h => h) (Or.inr ⟨by rfl, rfl⟩) ?_ ?_
                                                      rotate_left
                                                      · simp only [Act.put, List.setIfInBounds_toArray, List.set_cons_zero, List.set_cons_succ, i64_w, i32_w]
                                                        rfl
                                                      refine pure_ (i := 17) (N := some 95) (v := undef) (a' := ?_) #[true, true, true, true, true, true, true, true, true, true, true, true, true, true, true, true, true, true, false, false, false] rfl rfl (any_of HT_.out (by kernel_rfl)) (fun _ _ _ h => h) (Or.inr ⟨by rfl, rfl⟩) ?_ ?_
                                                      rotate_left
                                                      · simp only [Act.put, List.setIfInBounds_toArray, List.set_cons_zero, List.set_cons_succ, i64_w, i32_w]
                                                        rfl
                                                      refine pure_ (i := 18) (N := some 96) (v := undef) (a' := ?_) #[true, true, true, true, true, true, true, true, true, true, true, true, true, true, true, true, true, true, true, false, false] rfl rfl (any_of HT_.out (by kernel_rfl)) (fun _ _ _ h => h) (Or.inr ⟨by rfl, rfl⟩) ?_ ?_
                                                      rotate_left
                                                      · simp only [Act.put, List.setIfInBounds_toArray, List.set_cons_zero, List.set_cons_succ, i64_w, i32_w]
                                                        rfl
                                                      refine pure_ (i := 19) (N := some 97) (v := undef) (a' := ?_) #[true, true, true, true, true, true, true, true, true, true, true, true, true, true, true, true, true, true, true, true, false] rfl rfl (any_of HT_.out (by kernel_rfl)) (fun _ _ _ h => h) (Or.inr ⟨by rfl, rfl⟩) ?_ ?_
                                                      rotate_left
                                                      · simp only [Act.put, List.setIfInBounds_toArray, List.set_cons_zero, List.set_cons_succ, i64_w, i32_w]
                                                        rfl
                                                      refine pure_ (i := 20) (N := some 98) (v := ?_) (a' := ?_) #[true, true, true, true, true, true, true, true, true, true, true, true, true, true, true, true, true, true, true, true, true] rfl rfl (any_of HT_.out (by kernel_rfl)) (fun _ _ _ h => h) (Or.inl ⟨by rfl, ?_⟩) ?_ ?_
                                                      rotate_left
                                                      · intro w'
                                                        go_simp
                                                        with_reducible rfl
                                                      rotate_left
                                                      · simp only [Act.put, List.setIfInBounds_toArray, List.set_cons_zero, List.set_cons_succ, i64_w, i32_w]
                                                        rfl
                                                      refine done_ (done_of HT_.out (by kernel_rfl)) ?_
                                                      try go_wp2
                                                      go_meet
                                                      case rel => exact ⟨_, (true), (by first | rfl | (simp; done) | (simp [*]; done)), (by first | exact H' | (subst_vars; exact H')), ⟨by have := HJ1.out; have := HK2.out; have := HJ6.out; have := HJ15.out; first | omega | exact Nat.le_refl _⟩, ⟨by (with_reducible repeat (first | apply Kd.R_alloc | apply Kd.R_drewN | apply Kd.R_drew)); exact HO_4.out⟩, ⟨by (with_reducible repeat (first | refine blk_drewN ?_ _ | refine blk_drew ?_ | refine blk_alloc ?_ _)); exact BK162.out⟩, ⟨by repeat (first | (with_reducible first | exact HB.out | apply below_alloc | apply pw_below_drewN | apply below_drew1 | refine below_set ?_ GE162.out) | exact HB.out)⟩⟩
                                                    · rw [if_neg c44] at H
                                                      have c44b0 : decide (15 < (wrap64 (Int.tdiv t160 16))) = false := decide_eq_false c44
                                                      clear c44
                                                      replace H := Option.bind_eq_some_iff.mp H
                                                      obtain ⟨t163, A470, H⟩ := H
                                                      replace H : (if x5_2 ≤ (wrap64 ((wrap64 (x5_2 + 12)) + t159)) then (if (wrap64 ((wrap64 (x5_2 + 12)) + t159)) ≤ (a0.size : Int) then (patchbayref4_CaptureFront.j4 kj15 a0 x4_2 x5_2 t159 (t163.toList != (a0.extract (x5_2 : Int).toNat ((wrap64 ((wrap64 (x5_2 + 12)) + t159)) : Int).toNat).toList) (wrap64 (x6_2 + t161)) (wrap64 (Int.tdiv t160 16)) (Int.tmod (wrap64 (Int.tdiv t160 2)) 8) ((Int.tmod t160 2) == 1) (a0.extract ((ji28) : Int).toNat ((wrap64 ((ji28) + t159)) : Int).toNat)) else (none)) else (none)) = some (r1, r2) := H
                                                      have A47 := Aside0.mk A470
                                                      clear A470
                                                      have c48b0 := eq_true (of_decide_eq_true (by first | (with_reducible assumption) | assumption) : 0 ≤ x5_2)
                                                      by_cases c49 : x5_2 ≤ (wrap64 ((wrap64 (x5_2 + 12)) + t159))
                                                      · rw [if_pos c49] at H
                                                        have c49b0 := eq_true c49
                                                        have c49b1 : decide (x5_2 ≤ (wrap64 ((wrap64 (x5_2 + 12)) + t159))) = true := decide_eq_true c49
                                                        by_cases c50 : (wrap64 ((wrap64 (x5_2 + 12)) + t159)) ≤ (a0.size : Int)
                                                        · rw [if_pos c50] at H
                                                          have c50b0 := eq_true c50
                                                          have c50b1 : decide ((wrap64 ((wrap64 (x5_2 + 12)) + t159)) ≤ (a0.size : Int)) = true := decide_eq_true c50
                                                          have H' := Aside0.mk H
                                                          clear H
                                                          try go_wp2
                                                          have n0_ : Aside0 (Kd.R k26 26 (((((w35.setCell ⟨gb162, 0, none⟩ (.int .i64 (wrap64 (x6_2 + t161)))).setCell ⟨gb162, 1, none⟩ (.int .i64 (wrap64 (Int.tdiv t160 16)))).setCell ⟨gb162, 2, none⟩ (.int .i64 (Int.tmod (wrap64 (Int.tdiv t160 2)) 8))).setCell ⟨gb162, 3, none⟩ (.bool ((Int.tmod t160 2) == 1))).setCell ⟨gb162, 4, none⟩ (.string (a0.extract ((ji28) : Int).toNat ((wrap64 ((ji28) + t159)) : Int).toNat))) w.heap.size (fun k_ => k_ ≠ gb162) u4 x4_2) := ⟨by (with_reducible repeat (first | apply Kd.R_alloc | apply Kd.R_drewN | apply Kd.R_drew)); exact Kd.R_mono (Kd.R_far (p := ⟨gb162, 4, none⟩) (Kd.R_far (p := ⟨gb162, 3, none⟩) (Kd.R_far (p := ⟨gb162, 2, none⟩) (Kd.R_far (p := ⟨gb162, 1, none⟩) (Kd.R_far (p := ⟨gb162, 0, none⟩) (Kd.R_mono HO_4.out (fun k_ hk => (⟨hk, hk⟩ : _ ∧ k_ ≠ gb162))) (fun _ hk => hk.2) (.int .i64 (wrap64 (x6_2 + t161)))) (fun _ hk => hk.2) (.int .i64 (wrap64 (Int.tdiv t160 16)))) (fun _ hk => hk.2) (.int .i64 (Int.tmod (wrap64 (Int.tdiv t160 2)) 8))) (fun _ hk => hk.2) (.bool ((Int.tmod t160 2) == 1))) (fun _ hk => hk.2) (.string (a0.extract ((ji28) : Int).toNat ((wrap64 ((ji28) + t159)) : Int).toNat))) (fun _ hk => hk.1)⟩
                                                          have n1_ : Aside0 ((((((w35.setCell ⟨gb162, 0, none⟩ (.int .i64 (wrap64 (x6_2 + t161)))).setCell ⟨gb162, 1, none⟩ (.int .i64 (wrap64 (Int.tdiv t160 16)))).setCell ⟨gb162, 2, none⟩ (.int .i64 (Int.tmod (wrap64 (Int.tdiv t160 2)) 8))).setCell ⟨gb162, 3, none⟩ (.bool ((Int.tmod t160 2) == 1))).setCell ⟨gb162, 4, none⟩ (.string (a0.extract ((ji28) : Int).toNat ((wrap64 ((ji28) + t159)) : Int).toNat))).heap[gb162]? = some (.cells #[.int .i64 (wrap64 (x6_2 + t161)), .int .i64 (wrap64 (Int.tdiv t160 16)), .int .i64 (Int.tmod (wrap64 (Int.tdiv t160 2)) 8), .bool ((Int.tmod t160 2) == 1), .string (a0.extract ((ji28) : Int).toNat ((wrap64 ((ji28) + t159)) : Int).toNat)] 26 (0, 0))) := ⟨by (with_reducible repeat (first | refine blk_drewN ?_ _ | refine blk_drew ?_ | refine blk_alloc ?_ _)); refine blk_put (cs := #[.int .i64 (wrap64 (x6_2 + t161)), .int .i64 (wrap64 (Int.tdiv t160 16)), .int .i64 (Int.tmod (wrap64 (Int.tdiv t160 2)) 8), .bool ((Int.tmod t160 2) == 1), .string (⟨#[]⟩ : ByteArray)]) ?_ 4 _ rfl; (with_reducible repeat (first | refine blk_drewN ?_ _ | refine blk_drew ?_ | refine blk_alloc ?_ _)); refine blk_put (cs := #[.int .i64 (wrap64 (x6_2 + t161)), .int .i64 (wrap64 (Int.tdiv t160 16)), .int .i64 (Int.tmod (wrap64 (Int.tdiv t160 2)) 8), .bool false, .string (⟨#[]⟩ : ByteArray)]) ?_ 3 _ rfl; (with_reducible repeat (first | refine blk_drewN ?_ _ | refine blk_drew ?_ | refine blk_alloc ?_ _)); refine blk_put (cs := #[.int .i64 (wrap64 (x6_2 + t161)), .int .i64 (wrap64 (Int.tdiv t160 16)), .int .i64 0, .bool false, .string (⟨#[]⟩ : ByteArray)]) ?_ 2 _ rfl; (with_reducible repeat (first | refine blk_drewN ?_ _ | refine blk_drew ?_ | refine blk_alloc ?_ _)); refine blk_put (cs := #[.int .i64 (wrap64 (x6_2 + t161)), .int .i64 0, .int .i64 0, .bool false, .string (⟨#[]⟩ : ByteArray)]) ?_ 1 _ rfl; (with_reducible repeat (first | refine blk_drewN ?_ _ | refine blk_drew ?_ | refine blk_alloc ?_ _)); refine blk_put (cs := #[.int .i64 0, .int .i64 0, .int .i64 0, .bool false, .string (⟨#[]⟩ : ByteArray)]) ?_ 0 _ rfl; (with_reducible repeat (first | refine blk_drewN ?_ _ | refine blk_drew ?_ | refine blk_alloc ?_ _)); exact BK162.out⟩
                                                          have n2_ : Aside0 (Below w.heap.size w (((((w35.setCell ⟨gb162, 0, none⟩ (.int .i64 (wrap64 (x6_2 + t161)))).setCell ⟨gb162, 1, none⟩ (.int .i64 (wrap64 (Int.tdiv t160 16)))).setCell ⟨gb162, 2, none⟩ (.int .i64 (Int.tmod (wrap64 (Int.tdiv t160 2)) 8))).setCell ⟨gb162, 3, none⟩ (.bool ((Int.tmod t160 2) == 1))).setCell ⟨gb162, 4, none⟩ (.string (a0.extract ((ji28) : Int).toNat ((wrap64 ((ji28) + t159)) : Int).toNat)))) := ⟨by repeat (first | (with_reducible first | exact HB.out | apply below_alloc | apply pw_below_drewN | apply below_drew1 | refine below_set ?_ GE162.out) | exact HB.out)⟩
                                                          (try clear HO_4)
                                                          (try clear BK162)
                                                          (try clear HB)
                                                          generalize (((((w35.setCell ⟨gb162, 0, none⟩ (.int .i64 (wrap64 (x6_2 + t161)))).setCell ⟨gb162, 1, none⟩ (.int .i64 (wrap64 (Int.tdiv t160 16)))).setCell ⟨gb162, 2, none⟩ (.int .i64 (Int.tmod (wrap64 (Int.tdiv t160 2)) 8))).setCell ⟨gb162, 3, none⟩ (.bool ((Int.tmod t160 2) == 1))).setCell ⟨gb162, 4, none⟩ (.string (a0.extract ((ji28) : Int).toNat ((wrap64 ((ji28) + t159)) : Int).toNat))) = w51 at n0_ n1_ n2_ ⊢
                                                          have HO_4 := n0_
                                                          have BK162 := n1_
                                                          have HB := n2_
                                                          clear n0_ n1_ n2_
                                                          have n0_ := Aside0.mk (Kd.R_drew HO_4.out)
                                                          have n1_ := Aside0.mk (blk_drew BK162.out)
                                                          have n2_ := Aside0.mk (below_drew1 HB.out)
                                                          clear HO_4
                                                          clear BK162
                                                          clear HB
                                                          have HO_4 := n0_
                                                          have BK162 := n1_
                                                          have HB := n2_
                                                          clear n0_ n1_ n2_
                                                          refine start_ (n := 21) (S := fun w' => w'.cell? ⟨gb162, 0, none⟩ = some (.int .i64 (wrap64 (x6_2 + t161))) ∧ w'.cell? ⟨gb162, 1, none⟩ = some (.int .i64 (wrap64 (Int.tdiv t160 16))) ∧ w'.cell? ⟨gb162, 2, none⟩ = some (.int .i64 (Int.tmod (wrap64 (Int.tdiv t160 2)) 8)) ∧ w'.cell? ⟨gb162, 3, none⟩ = some (.bool ((Int.tmod t160 2) == 1)) ∧ w'.cell? ⟨gb162, 4, none⟩ = some (.string (a0.extract ((ji28) : Int).toNat ((wrap64 ((ji28) + t159)) : Int).toNat))) (ds := []) #[false, false, false, false, false, false, false, false, false, false, false, false, false, false, false, false, false, false, false, false, false] (by kernel_rfl) rfl rfl ⟨(blk_cell BK162.out 0).trans rfl, (blk_cell BK162.out 1).trans rfl, (blk_cell BK162.out 2).trans rfl, (blk_cell BK162.out 3).trans rfl, (blk_cell BK162.out 4).trans rfl⟩ (fun hHeld => ?_); refine with_tabW patchbayref4_CaptureFront.tab10 patchbayref4_CaptureFront.bits10 (fun HT_ HW_ => ?_)
                                                          generalize w51.drew = w52 at HO_4 BK162 HB hHeld ⊢
                                                          refine pure_ (i := 0) (N := some 78) (v := ?_) (a' := ?_) #[true, false, false, false, false, false, false, false, false, false, false, false, false, false, false, false, false, false, false, false, false] rfl rfl (any_of HT_.out (by kernel_rfl)) (fun _ _ _ h => h) (Or.inl ⟨by rfl, ?_⟩) ?_ ?_
                                                          rotate_left
                                                          · intro w'
                                                            go_simp
                                                            with_reducible rfl
                                                          rotate_left
                                                          · simp only [Act.put, List.setIfInBounds_toArray, List.set_cons_zero, List.set_cons_succ, i64_w, i32_w]
                                                            rfl
                                                          refine take_ (i := 1) (N := some 79) (v := ?_) (a' := ?_) #[true, true, false, false, false, false, false, false, false, false, false, false, false, false, false, false, false, false, false, false, false] rfl rfl (take_ofW HT_.out HW_.out (by kernel_rfl)) (fun _ _ _ h => h) (Or.inl ⟨by rfl, ?_⟩) hHeld ?_ ?_
                                                          rotate_left
                                                          · rintro w' ⟨s0, s1, s2, s3, s4⟩
                                                            go_simp
                                                            with_reducible rfl
                                                          rotate_left
                                                          · simp only [Act.put, List.setIfInBounds_toArray, List.set_cons_zero, List.set_cons_succ, i64_w, i32_w]
                                                            rfl
                                                          refine pure_ (i := 2) (N := some 80) (v := ?_) (a' := ?_) #[true, true, true, false, false, false, false, false, false, false, false, false, false, false, false, false, false, false, false, false, false] rfl rfl (any_of HT_.out (by kernel_rfl)) (fun _ _ _ h => h) (Or.inl ⟨by rfl, ?_⟩) ?_ ?_
                                                          rotate_left
                                                          · intro w'
                                                            go_simp
                                                            with_reducible rfl
                                                          rotate_left
                                                          · simp only [Act.put, List.setIfInBounds_toArray, List.set_cons_zero, List.set_cons_succ, i64_w, i32_w]
                                                            rfl
                                                          refine pure_ (i := 3) (N := some 81) (v := ?_) (a' := ?_) #[true, true, true, true, false, false, false, false, false, false, false, false, false, false, false, false, false, false, false, false, false] rfl rfl (any_of HT_.out (by kernel_rfl)) (fun _ _ _ h => h) (Or.inl ⟨by rfl, ?_⟩) ?_ ?_
                                                          rotate_left
                                                          · intro w'
                                                            go_simp
                                                            with_reducible rfl
                                                          rotate_left
                                                          · simp only [Act.put, List.setIfInBounds_toArray, List.set_cons_zero, List.set_cons_succ, i64_w, i32_w]
                                                            rfl
                                                          refine pure_ (i := 4) (N := some 82) (v := ?_) (a' := ?_) #[true, true, true, true, true, false, false, false, false, false, false, false, false, false, false, false, false, false, false, false, false] rfl rfl (any_of HT_.out (by kernel_rfl)) (fun _ _ _ h => h) (Or.inl ⟨by rfl, ?_⟩) ?_ ?_
                                                          rotate_left
                                                          · intro w'
                                                            go_simp
                                                            with_reducible rfl
                                                          rotate_left
                                                          · simp only [Act.put, List.setIfInBounds_toArray, List.set_cons_zero, List.set_cons_succ, i64_w, i32_w]
                                                            rfl
                                                          refine take_ (i := 5) (N := some 83) (v := ?_) (a' := ?_) #[true, true, true, true, true, true, false, false, false, false, false, false, false, false, false, false, false, false, false, false, false] rfl rfl (take_ofW HT_.out HW_.out (by kernel_rfl)) (fun _ _ _ h => h) (Or.inl ⟨by rfl, ?_⟩) hHeld ?_ ?_
                                                          rotate_left
                                                          · rintro w' ⟨s0, s1, s2, s3, s4⟩
                                                            go_simp
                                                            with_reducible rfl
                                                          rotate_left
                                                          · simp only [Act.put, List.setIfInBounds_toArray, List.set_cons_zero, List.set_cons_succ, i64_w, i32_w]
                                                            rfl
                                                          refine pure_ (i := 6) (N := some 84) (v := ?_) (a' := ?_) #[true, true, true, true, true, true, true, false, false, false, false, false, false, false, false, false, false, false, false, false, false] rfl rfl (any_of HT_.out (by kernel_rfl)) (fun _ _ _ h => h) (Or.inl ⟨by rfl, ?_⟩) ?_ ?_
                                                          rotate_left
                                                          · intro w'
                                                            go_simp
                                                            with_reducible rfl
                                                          rotate_left
                                                          · simp only [Act.put, List.setIfInBounds_toArray, List.set_cons_zero, List.set_cons_succ, i64_w, i32_w]
                                                            rfl
                                                          refine pure_ (i := 7) (N := some 85) (v := ?_) (a' := ?_) #[true, true, true, true, true, true, true, true, false, false, false, false, false, false, false, false, false, false, false, false, false] rfl rfl (any_of HT_.out (by kernel_rfl)) (fun _ _ _ h => h) (Or.inl ⟨by rfl, ?_⟩) ?_ ?_
                                                          rotate_left
                                                          · intro w'
                                                            go_simp
                                                            with_reducible rfl
                                                          rotate_left
                                                          · simp only [Act.put, List.setIfInBounds_toArray, List.set_cons_zero, List.set_cons_succ, i64_w, i32_w]
                                                            rfl
                                                          refine pure_ (i := 8) (N := some 86) (v := ?_) (a' := ?_) #[true, true, true, true, true, true, true, true, true, false, false, false, false, false, false, false, false, false, false, false, false] rfl rfl (any_of HT_.out (by kernel_rfl)) (fun _ _ _ h => h) (Or.inl ⟨by rfl, ?_⟩) ?_ ?_
                                                          rotate_left
                                                          · intro w'
                                                            go_simp
                                                            with_reducible rfl
                                                          rotate_left
                                                          · simp only [Act.put, List.setIfInBounds_toArray, List.set_cons_zero, List.set_cons_succ, i64_w, i32_w]
                                                            rfl
                                                          refine pure_ (i := 10) (N := some 88) (v := ?_) (a' := ?_) #[true, true, true, true, true, true, true, true, true, false, true, false, false, false, false, false, false, false, false, false, false] rfl rfl (any_of HT_.out (by kernel_rfl)) (fun _ _ _ h => h) (Or.inl ⟨by rfl, ?_⟩) ?_ ?_
                                                          rotate_left
                                                          · intro w'
                                                            go_simp
                                                            with_reducible rfl
                                                          rotate_left
                                                          · simp only [Act.put, List.setIfInBounds_toArray, List.set_cons_zero, List.set_cons_succ, i64_w, i32_w]
                                                            rfl
                                                          refine pure_ (i := 12) (N := some 90) (v := ?_) (a' := ?_) #[true, true, true, true, true, true, true, true, true, false, true, false, true, false, false, false, false, false, false, false, false] rfl rfl (any_of HT_.out (by kernel_rfl)) (fun _ _ _ h => h) (Or.inl ⟨by rfl, ?_⟩) ?_ ?_
                                                          rotate_left
                                                          · intro w'
                                                            go_simp
                                                            with_reducible rfl
                                                          rotate_left
                                                          · simp only [Act.put, List.setIfInBounds_toArray, List.set_cons_zero, List.set_cons_succ, i64_w, i32_w]
                                                            rfl
                                                          refine pure_ (i := 13) (N := some 91) (v := ?_) (a' := ?_) #[true, true, true, true, true, true, true, true, true, false, true, false, true, true, false, false, false, false, false, false, false] rfl rfl (any_of HT_.out (by kernel_rfl)) (fun _ _ _ h => h) (Or.inl ⟨by rfl, ?_⟩) ?_ ?_
                                                          rotate_left
                                                          · intro w'
                                                            go_simp
                                                            with_reducible rfl
                                                          rotate_left
                                                          · simp only [Act.put, List.setIfInBounds_toArray, List.set_cons_zero, List.set_cons_succ, i64_w, i32_w]
                                                            rfl
                                                          refine pure_ (i := 14) (N := some 92) (v := ?_) (a' := ?_) #[true, true, true, true, true, true, true, true, true, false, true, false, true, true, true, false, false, false, false, false, false] rfl rfl (any_of HT_.out (by kernel_rfl)) (fun _ _ _ h => h) (Or.inl ⟨by rfl, ?_⟩) ?_ ?_
                                                          rotate_left
                                                          · intro w'
                                                            go_simp
                                                            with_reducible rfl
                                                          rotate_left
                                                          · simp only [Act.put, List.setIfInBounds_toArray, List.set_cons_zero, List.set_cons_succ, i64_w, i32_w]
                                                            rfl
                                                          refine pure_ (i := 15) (N := some 93) (v := ?_) (a' := ?_) #[true, true, true, true, true, true, true, true, true, false, true, false, true, true, true, true, false, false, false, false, false] rfl rfl (any_of HT_.out (by kernel_rfl)) (fun _ _ _ h => h) (Or.inl ⟨by rfl, ?_⟩) ?_ ?_
                                                          rotate_left
                                                          · intro w'
                                                            go_simp
                                                            with_reducible rfl
                                                          rotate_left
                                                          · simp only [Act.put, List.setIfInBounds_toArray, List.set_cons_zero, List.set_cons_succ, i64_w, i32_w]
                                                            rfl
                                                          refine pure_ (i := 16) (N := some 94) (v := ?_) (a' := ?_) #[true, true, true, true, true, true, true, true, true, false, true, false, true, true, true, true, true, false, false, false, false] rfl rfl (any_of HT_.out (by kernel_rfl)) (fun _ _ _ h => h) (Or.inl ⟨by rfl, ?_⟩) ?_ ?_
                                                          rotate_left
                                                          · intro w'
                                                            go_simp
                                                            with_reducible rfl
                                                          rotate_left
                                                          · simp only [Act.put, List.setIfInBounds_toArray, List.set_cons_zero, List.set_cons_succ, i64_w, i32_w]
                                                            rfl
                                                          refine pure_ (i := 17) (N := some 95) (v := ?_) (a' := ?_) #[true, true, true, true, true, true, true, true, true, false, true, false, true, true, true, true, true, true, false, false, false] rfl rfl (any_of HT_.out (by kernel_rfl)) (fun _ _ _ h => h) (Or.inl ⟨by rfl, ?_⟩) ?_ ?_
                                                          rotate_left
                                                          · intro w'
                                                            go_simp
                                                            with_reducible rfl
                                                          rotate_left
                                                          · simp only [Act.put, List.setIfInBounds_toArray, List.set_cons_zero, List.set_cons_succ, i64_w, i32_w]
                                                            rfl
                                                          refine pure_ (i := 18) (N := some 96) (v := ?_) (a' := ?_) #[true, true, true, true, true, true, true, true, true, false, true, false, true, true, true, true, true, true, true, false, false] rfl rfl (any_of HT_.out (by kernel_rfl)) (fun _ _ _ h => h) (Or.inl ⟨by rfl, ?_⟩) ?_ ?_
                                                          rotate_left
                                                          · intro w'
                                                            go_simp
                                                            with_reducible rfl
                                                          rotate_left
                                                          · simp only [Act.put, List.setIfInBounds_toArray, List.set_cons_zero, List.set_cons_succ, i64_w, i32_w]
                                                            rfl
                                                          refine take_ (i := 9) (N := some 87) (v := ?_) (a' := ?_) #[true, true, true, true, true, true, true, true, true, true, true, false, true, true, true, true, true, true, true, false, false] rfl rfl (take_ofW HT_.out HW_.out (by kernel_rfl)) (fun _ _ _ h => h) (Or.inl ⟨by rfl, ?_⟩) hHeld ?_ ?_
                                                          rotate_left
                                                          · rintro w' ⟨s0, s1, s2, s3, s4⟩
                                                            go_simp
                                                            with_reducible rfl
                                                          rotate_left
                                                          · simp only [Act.put, List.setIfInBounds_toArray, List.set_cons_zero, List.set_cons_succ, i64_w, i32_w]
                                                            rfl
                                                          refine one_ (i := 11) (N := some 89) #[true, true, true, true, true, true, true, true, true, true, true, true, true, true, true, true, true, true, true, false, false] rfl rfl (one_of HT_.out (by kernel_rfl)) (by decide) (fun K hK => ?_)
                                                          refine goes_ Try.func55 (by kernel_rfl) rfl #[.agg #[.int .i64 (wrap64 (x6_2 + t161)), .int .i64 (wrap64 (Int.tdiv t160 16)), .int .i64 (Int.tmod (wrap64 (Int.tdiv t160 2)) 8), .bool ((Int.tmod t160 2) == 1), .string (a0.extract ((ji28) : Int).toNat ((wrap64 ((ji28) + t159)) : Int).toNat)], .int .i64 x6_2] (by rfl) rfl rfl (by (try simp only [List.map_toArray, List.map_cons, List.map_nil]); first | done | (simp only [hji28]; rfl) | rfl | (simp only [List.length_drop, List.length_take]; rfl)) ?_
                                                          with_reducible refine (patchbayref4_RecordText.calls kj15 (wrap64 (x6_2 + t161)) (wrap64 (Int.tdiv t160 16)) (Int.tmod (wrap64 (Int.tdiv t160 2)) 8) ((Int.tmod t160 2) == 1) (a0.extract ((ji28) : Int).toNat ((wrap64 ((ji28) + t159)) : Int).toNat) x6_2 t163 _ A47.out).mono ?_
                                                          rintro e w53 ⟨rfl, hb⟩
                                                          refine ⟨_, rfl, ?_⟩
                                                          have n0_ := Aside0.mk (Kd.R_below (by (with_reducible repeat (first | apply Kd.R_alloc | apply Kd.R_drewN | apply Kd.R_drew)); exact HO_4.out) hb)
                                                          have n1_ := Aside0.mk (blk_below (g := gb162) (o := .cells #[.int .i64 (wrap64 (x6_2 + t161)), .int .i64 (wrap64 (Int.tdiv t160 16)), .int .i64 (Int.tmod (wrap64 (Int.tdiv t160 2)) 8), .bool ((Int.tmod t160 2) == 1), .string (a0.extract ((ji28) : Int).toNat ((wrap64 ((ji28) + t159)) : Int).toNat)] 26 (0, 0)) (by (with_reducible repeat (first | refine blk_drewN ?_ _ | refine blk_drew ?_ | refine blk_alloc ?_ _)); exact BK162.out) hb)
                                                          have n2_ := Aside0.mk (below_step (by repeat (first | (with_reducible first | exact HB.out | apply below_alloc | apply pw_below_drewN | apply below_drew1 | refine below_set ?_ GE162.out) | exact HB.out)) hb)
                                                          clear HO_4
                                                          clear BK162
                                                          clear HB
                                                          have HO_4 := n0_
                                                          have BK162 := n1_
                                                          have HB := n2_
                                                          clear n0_ n1_ n2_
                                                          (try clear hb)
                                                          (try clear hb2)
                                                          (try clear hk)
                                                          (try clear hi)
                                                          refine hK.out _ _ ⟨(blk_cell BK162.out 0).trans rfl, (blk_cell BK162.out 1).trans rfl, (blk_cell BK162.out 2).trans rfl, (blk_cell BK162.out 3).trans rfl, (blk_cell BK162.out 4).trans rfl⟩ (fun hHeld => ?_)
                                                          clear hK K
                                                          refine norm_ (a' := ?_) ?_ ?_
                                                          rotate_left
                                                          · show Act.put _ (some 89) _ = _
                                                            simp only [Act.put, List.setIfInBounds_toArray, List.set_cons_zero, List.set_cons_succ, i64_w, i32_w]
                                                            rfl
                                                          refine pure_ (i := 19) (N := some 97) (v := ?_) (a' := ?_) #[true, true, true, true, true, true, true, true, true, true, true, true, true, true, true, true, true, true, true, true, false] rfl rfl (any_of HT_.out (by kernel_rfl)) (fun _ _ _ h => h) (Or.inl ⟨by rfl, ?_⟩) ?_ ?_
                                                          rotate_left
                                                          · intro w'
                                                            go_simp
                                                            with_reducible rfl
                                                          rotate_left
                                                          · simp only [Act.put, List.setIfInBounds_toArray, List.set_cons_zero, List.set_cons_succ, i64_w, i32_w]
                                                            rfl
                                                          refine pure_ (i := 20) (N := some 98) (v := ?_) (a' := ?_) #[true, true, true, true, true, true, true, true, true, true, true, true, true, true, true, true, true, true, true, true, true] rfl rfl (any_of HT_.out (by kernel_rfl)) (fun _ _ _ h => h) (Or.inl ⟨by rfl, ?_⟩) ?_ ?_
                                                          rotate_left
                                                          · intro w'
                                                            go_simp
                                                            with_reducible rfl
                                                          rotate_left
                                                          · simp only [Act.put, List.setIfInBounds_toArray, List.set_cons_zero, List.set_cons_succ, i64_w, i32_w]
                                                            rfl
                                                          refine done_ (done_of HT_.out (by kernel_rfl)) ?_
                                                          try go_wp2
                                                          go_meet
                                                          case rel => exact ⟨_, ((t163.toList != (a0.extract (x5_2 : Int).toNat ((wrap64 ((wrap64 (x5_2 + 12)) + t159)) : Int).toNat).toList)), (by first | rfl | (simp; done) | (simp [*]; done)), (by first | exact H' | (subst_vars; exact H')), ⟨by have := HJ1.out; have := HK2.out; have := HJ6.out; have := HJ15.out; first | omega | exact Nat.le_refl _⟩, ⟨by (with_reducible repeat (first | apply Kd.R_alloc | apply Kd.R_drewN | apply Kd.R_drew)); exact HO_4.out⟩, ⟨by (with_reducible repeat (first | refine blk_drewN ?_ _ | refine blk_drew ?_ | refine blk_alloc ?_ _)); exact BK162.out⟩, ⟨by repeat (first | (with_reducible first | exact HB.out | apply below_alloc | apply pw_below_drewN | apply below_drew1 | refine below_set ?_ GE162.out) | exact HB.out)⟩⟩
                                                        · rw [if_neg c50] at H
                                                          exact absurd H (by simp)
                                                      · rw [if_neg c49] at H
                                                        exact absurd H (by simp)
                                                case rest =>
                                                  clear HC32
                                                  try clear p2
                                                  try clear c4
                                                  try clear c5
                                                  try clear p6
                                                  try clear c41
                                                  try clear c41b0
                                                  try clear c44
                                                  try clear c44b0
                                                  try clear c48
                                                  try clear c48b0
                                                  try clear c49
                                                  try clear c49b0
                                                  try clear c49b1
                                                  try clear c50
                                                  try clear c50b0
                                                  try clear c50b1
                                                  try clear hji28
                                                  obtain ⟨kq, x98_31, rfl, HA, HJ31, HO_4, BK162, HB⟩ := hcut
                                                  cases kq with
                                                  | zero => exact absurd HA.out (by simp [patchbayref4_CaptureFront.j4])
                                                  | succ kj31 =>
                                                    have H := HA.out
                                                    clear HA
                                                    simp only [patchbayref4_CaptureFront.j4] at H
                                                    by_cases c54 : x98_31 = true
                                                    · subst c54
                                                      have H1 : (some (x4_2, x5_2)) = some (r1, r2) := by rw [if_pos rfl] at H; exact H
                                                      clear H
                                                      have H := H1
                                                      clear H1
                                                      simp only [Option.some.injEq, Prod.mk.injEq] at H
                                                      obtain ⟨rfl, rfl⟩ := H
                                                      go_wp2
                                                      go_ret2
                                                      exact ⟨_, by first | rfl | (simp [errW_none, errW_some] <;> rfl) | (simp only [← hji11, ← hji19, ← hji28]; first | rfl | (simp [errW_none, errW_some] <;> rfl)) | (simp [*, errW_none, errW_some] <;> rfl), by (with_reducible repeat (first | apply Kd.R_alloc | apply Kd.R_drewN | apply Kd.R_drew)); exact Kd.R_mono HO_4.out (fun _ hk => trivial), by repeat (first | (with_reducible first | exact HB.out | apply below_alloc | apply pw_below_drewN | apply below_drew1 | refine below_set ?_ GE162.out) | exact HB.out)⟩
                                                    · replace c54 := Bool.eq_false_iff.mpr c54
                                                      subst c54
                                                      have H1 : (if x4_2.length < 2932031007402 then (patchbayref4_CaptureFront.l0 kj31 a0 (x4_2 ++ [(⟨(wrap64 (x6_2 + t161)), (wrap64 (Int.tdiv t160 16)), (Int.tmod (wrap64 (Int.tdiv t160 2)) 8), ((Int.tmod t160 2) == 1), (a0.extract ((ji28) : Int).toNat ((wrap64 ((ji28) + t159)) : Int).toNat)⟩ : S26)]) (wrap64 ((wrap64 (x5_2 + 12)) + t159)) (wrap64 (x6_2 + t161))) else (none)) = some (r1, r2) := by rw [if_neg (show ¬ (false = true) by decide)] at H; exact H
                                                      clear H
                                                      have H := H1
                                                      clear H1
                                                      by_cases c55 : x4_2.length < 2932031007402
                                                      · rw [if_pos c55] at H
                                                        have LMc55 := Aside0.mk c55
                                                        clear c55
                                                        obtain ⟨y164, hy164⟩ : ∃ y_ : List (S26), y_ = (x4_2 ++ [(⟨(wrap64 (x6_2 + t161)), (wrap64 (Int.tdiv t160 16)), (Int.tmod (wrap64 (Int.tdiv t160 2)) 8), ((Int.tmod t160 2) == 1), (a0.extract ((ji28) : Int).toNat ((wrap64 ((ji28) + t159)) : Int).toNat)⟩ : S26)]) := ⟨_, rfl⟩
                                                        replace H : (patchbayref4_CaptureFront.l0 kj31 a0 y164 (wrap64 ((wrap64 (x5_2 + 12)) + t159)) (wrap64 (x6_2 + t161))) = some (r1, r2) := by first | (rw [hy164]; with_reducible exact H) | (have H2_ := (Option.bind_some _ _).symm.trans H; rw [hy164]; with_reducible exact H2_) | (have H2_ := (Option.bind_some _ _).symm.trans H; with_reducible exact H2_) | with_reducible exact H | (rw [hy164]; exact H) | exact H
                                                        have Ny164 := Aside0.mk hy164
                                                        clear hy164
                                                        have H' := Aside0.mk H
                                                        clear H
                                                        have hcz56_0 : wc.cell? ⟨gb162, 0, none⟩ = some (.int .i64 (wrap64 (x6_2 + t161))) := (blk_cell BK162.out 0).trans rfl
                                                        have hcz56_1 : wc.cell? ⟨gb162, 1, none⟩ = some (.int .i64 (wrap64 (Int.tdiv t160 16))) := (blk_cell BK162.out 1).trans rfl
                                                        have hcz56_2 : wc.cell? ⟨gb162, 2, none⟩ = some (.int .i64 (Int.tmod (wrap64 (Int.tdiv t160 2)) 8)) := (blk_cell BK162.out 2).trans rfl
                                                        have hcz56_3 : wc.cell? ⟨gb162, 3, none⟩ = some (.bool ((Int.tmod t160 2) == 1)) := (blk_cell BK162.out 3).trans rfl
                                                        have hcz56_4 : wc.cell? ⟨gb162, 4, none⟩ = some (.string (a0.extract ((ji28) : Int).toNat ((wrap64 ((ji28) + t159)) : Int).toNat)) := (blk_cell BK162.out 4).trans rfl
                                                        have hfz56_0 := blk_frozen BK162.out 0
                                                        have hfz56_1 := blk_frozen BK162.out 1
                                                        have hfz56_2 := blk_frozen BK162.out 2
                                                        have hfz56_3 := blk_frozen BK162.out 3
                                                        have hfz56_4 := blk_frozen BK162.out 4
                                                        try go_wp2_with (first | ((with_reducible refine gate_builtin (b := .append) (xs := #[.tmp 99, .tmp 101]) rfl ?_); (try (refine gate_guard (by rfl) ?_; dsimp only)); at_builtin; refine Kd.R_append k26 (w0 := w) w.heap.size rfl (.tmp 99) (.tmp 101) 22 26 (.agg #[(.int .i64 0), (.int .i64 0), (.int .i64 0), (.bool false), (.string ⟨#[]⟩)]) 48 rfl Try.underlying22 info26 rfl (by decide) (by omega) u4 x4_2 (⟨(wrap64 (x6_2 + t161)), (wrap64 (Int.tdiv t160 16)), (Int.tmod (wrap64 (Int.tdiv t160 2)) 8), ((Int.tmod t160 2) == 1), (a0.extract ((ji28) : Int).toNat ((wrap64 ((ji28) + t159)) : Int).toNat)⟩ : S26) [.int .i64 (wrap64 (x6_2 + t161)), .int .i64 (wrap64 (Int.tdiv t160 16)), .int .i64 (Int.tmod (wrap64 (Int.tdiv t160 2)) 8), .bool ((Int.tmod t160 2) == 1), .string (a0.extract ((ji28) : Int).toNat ((wrap64 ((ji28) + t159)) : Int).toNat)] (fun k_ => k_ ≠ gb162) (fun _ => False) rfl rfl ?aP (fun _ hk => hk.elim) ?aF ?aO ?aB ?aS ?aL ?_; (case aP => exact k26_mkM _ _ _ (⟨(wrap64 (x6_2 + t161)), (wrap64 (Int.tdiv t160 16)), (Int.tmod (wrap64 (Int.tdiv t160 2)) 8), ((Int.tmod t160 2) == 1), (a0.extract ((ji28) : Int).toNat ((wrap64 ((ji28) + t159)) : Int).toNat)⟩ : S26)); (case aB => exact (by repeat (first | (with_reducible first | exact HB.out | apply below_alloc | apply pw_below_drewN | apply below_drew1 | refine below_set ?_ GE162.out) | exact HB.out))); (case aF => exact (fun k_ hk => Kd.freshB (g := gb162) (o := .cells #[.int .i64 (wrap64 (x6_2 + t161)), .int .i64 (wrap64 (Int.tdiv t160 16)), .int .i64 (Int.tmod (wrap64 (Int.tdiv t160 2)) 8), .bool ((Int.tmod t160 2) == 1), .string (a0.extract ((ji28) : Int).toNat ((wrap64 ((ji28) + t159)) : Int).toNat)] 26 (0, 0)) (by (with_reducible repeat (first | refine blk_drewN ?_ _ | refine blk_drew ?_ | refine blk_alloc ?_ _)); exact BK162.out) k_ hk)); (case aO => exact (by (with_reducible repeat (first | apply Kd.R_alloc | apply Kd.R_drewN | apply Kd.R_drew)); exact HO_4.out)); (case aS => exact (below_size (by repeat (first | (with_reducible first | exact HB.out | apply below_alloc | apply pw_below_drewN | apply below_drew1 | refine below_set ?_ GE162.out) | exact HB.out)))); (case aL => have := LMc55.out; omega); intro v165 w57 ho hb hg hat; rw [← Ny164.out] at ho; have n0_ := Aside0.mk (blk_grown (g := gb162) (o := .cells #[.int .i64 (wrap64 (x6_2 + t161)), .int .i64 (wrap64 (Int.tdiv t160 16)), .int .i64 (Int.tmod (wrap64 (Int.tdiv t160 2)) 8), .bool ((Int.tmod t160 2) == 1), .string (a0.extract ((ji28) : Int).toNat ((wrap64 ((ji28) + t159)) : Int).toNat)] 26 (0, 0)) (by (with_reducible repeat (first | refine blk_drewN ?_ _ | refine blk_drew ?_ | refine blk_alloc ?_ _)); exact BK162.out) hg (Kd.R_away HO_4.out (fun _ hk => hk))); have n1_ := Aside0.mk (hb); have n2_ := Aside0.mk (ho); clear BK162; clear HB; clear HO_4; have BK162 := n0_; have HB := n1_; have HO166 := n2_; clear n0_ n1_ n2_; clear ho hb hg hat))
                                                        have n0_ := Aside0.mk (Kd.R_drew HO166.out)
                                                        have n1_ := Aside0.mk (blk_drew BK162.out)
                                                        have n2_ := Aside0.mk (below_drew1 HB.out)
                                                        clear HO166
                                                        clear BK162
                                                        clear HB
                                                        have HO166 := n0_
                                                        have BK162 := n1_
                                                        have HB := n2_
                                                        clear n0_ n1_ n2_
                                                        refine start_ (n := 8) (S := fun w' => w'.cell? ⟨gb162, 0, none⟩ = some (.int .i64 (wrap64 (x6_2 + t161))) ∧ w'.cell? ⟨gb162, 1, none⟩ = some (.int .i64 (wrap64 (Int.tdiv t160 16))) ∧ w'.cell? ⟨gb162, 2, none⟩ = some (.int .i64 (Int.tmod (wrap64 (Int.tdiv t160 2)) 8)) ∧ w'.cell? ⟨gb162, 3, none⟩ = some (.bool ((Int.tmod t160 2) == 1)) ∧ w'.cell? ⟨gb162, 4, none⟩ = some (.string (a0.extract ((ji28) : Int).toNat ((wrap64 ((ji28) + t159)) : Int).toNat))) (ds := []) #[false, false, false, false, false, false, false, false] (by kernel_rfl) rfl rfl ⟨(blk_cell BK162.out 0).trans rfl, (blk_cell BK162.out 1).trans rfl, (blk_cell BK162.out 2).trans rfl, (blk_cell BK162.out 3).trans rfl, (blk_cell BK162.out 4).trans rfl⟩ (fun hHeld => ?_); refine with_tabW patchbayref4_CaptureFront.tab12 patchbayref4_CaptureFront.bits12 (fun HT_ HW_ => ?_)
                                                        generalize w57.drew = w58 at HO166 BK162 HB hHeld ⊢
                                                        refine pure_ (i := 0) (N := some 103) (v := ?_) (a' := ?_) #[true, false, false, false, false, false, false, false] rfl rfl (any_of HT_.out (by kernel_rfl)) (fun _ _ _ h => h) (Or.inl ⟨by rfl, ?_⟩) ?_ ?_
                                                        rotate_left
                                                        · intro w'
                                                          go_simp
                                                          with_reducible rfl
                                                        rotate_left
                                                        · simp only [Act.put, List.setIfInBounds_toArray, List.set_cons_zero, List.set_cons_succ, i64_w, i32_w]
                                                          rfl
                                                        refine pure_ (i := 1) (N := some 104) (v := ?_) (a' := ?_) #[true, true, false, false, false, false, false, false] rfl rfl (any_of HT_.out (by kernel_rfl)) (fun _ _ _ h => h) (Or.inl ⟨by rfl, ?_⟩) ?_ ?_
                                                        rotate_left
                                                        · intro w'
                                                          go_simp
                                                          with_reducible rfl
                                                        rotate_left
                                                        · simp only [Act.put, List.setIfInBounds_toArray, List.set_cons_zero, List.set_cons_succ, i64_w, i32_w]
                                                          rfl
                                                        refine pure_ (i := 2) (N := some 105) (v := ?_) (a' := ?_) #[true, true, true, false, false, false, false, false] rfl rfl (any_of HT_.out (by kernel_rfl)) (fun _ _ _ h => h) (Or.inl ⟨by rfl, ?_⟩) ?_ ?_
                                                        rotate_left
                                                        · intro w'
                                                          go_simp
                                                          with_reducible rfl
                                                        rotate_left
                                                        · simp only [Act.put, List.setIfInBounds_toArray, List.set_cons_zero, List.set_cons_succ, i64_w, i32_w]
                                                          rfl
                                                        refine pure_ (i := 3) (N := some 106) (v := ?_) (a' := ?_) #[true, true, true, true, false, false, false, false] rfl rfl (any_of HT_.out (by kernel_rfl)) (fun _ _ _ h => h) (Or.inl ⟨by rfl, ?_⟩) ?_ ?_
                                                        rotate_left
                                                        · intro w'
                                                          go_simp
                                                          with_reducible rfl
                                                        rotate_left
                                                        · simp only [Act.put, List.setIfInBounds_toArray, List.set_cons_zero, List.set_cons_succ, i64_w, i32_w]
                                                          rfl
                                                        refine pure_ (i := 4) (N := some 107) (v := ?_) (a' := ?_) #[true, true, true, true, true, false, false, false] rfl rfl (any_of HT_.out (by kernel_rfl)) (fun _ _ _ h => h) (Or.inl ⟨by rfl, ?_⟩) ?_ ?_
                                                        rotate_left
                                                        · intro w'
                                                          go_simp
                                                          with_reducible rfl
                                                        rotate_left
                                                        · simp only [Act.put, List.setIfInBounds_toArray, List.set_cons_zero, List.set_cons_succ, i64_w, i32_w]
                                                          rfl
                                                        refine pure_ (i := 6) (N := some 5) (v := ?_) (a' := ?_) #[true, true, true, true, true, false, true, false] rfl rfl (any_of HT_.out (by kernel_rfl)) (fun _ _ _ h => h) (Or.inl ⟨by rfl, ?_⟩) ?_ ?_
                                                        rotate_left
                                                        · intro w'
                                                          go_simp
                                                          with_reducible rfl
                                                        rotate_left
                                                        · simp only [Act.put, List.setIfInBounds_toArray, List.set_cons_zero, List.set_cons_succ, i64_w, i32_w]
                                                          rfl
                                                        refine take_ (i := 5) (N := some 108) (v := ?_) (a' := ?_) #[true, true, true, true, true, true, true, false] rfl rfl (take_ofW HT_.out HW_.out (by kernel_rfl)) (fun _ _ _ h => h) (Or.inl ⟨by rfl, ?_⟩) hHeld ?_ ?_
                                                        rotate_left
                                                        · rintro w' ⟨s0, s1, s2, s3, s4⟩
                                                          go_simp
                                                          with_reducible rfl
                                                        rotate_left
                                                        · simp only [Act.put, List.setIfInBounds_toArray, List.set_cons_zero, List.set_cons_succ, i64_w, i32_w]
                                                          rfl
                                                        refine pure_ (i := 7) (N := some 6) (v := ?_) (a' := ?_) #[true, true, true, true, true, true, true, true] rfl rfl (any_of HT_.out (by kernel_rfl)) (fun _ _ _ h => h) (Or.inl ⟨by rfl, ?_⟩) ?_ ?_
                                                        rotate_left
                                                        · intro w'
                                                          go_simp
                                                          with_reducible rfl
                                                        rotate_left
                                                        · simp only [Act.put, List.setIfInBounds_toArray, List.set_cons_zero, List.set_cons_succ, i64_w, i32_w]
                                                          rfl
                                                        refine done_ (done_of HT_.out (by kernel_rfl)) ?_
                                                        try go_wp2
                                                        go_roundg kj31
                                                        case measure => have := HJ1.out; have := HK2.out; have := HJ6.out; have := HJ15.out; have := HJ31.out; omega
                                                        case rel => exact ⟨(y164), (wrap64 ((wrap64 (x5_2 + 12)) + t159)), ((wrap64 (x6_2 + t161))), (by first | rfl | (simp; done) | (simp [*]; done)), (by first | rfl | (simp; done) | (simp [*]; done)), H', ⟨by have := HJ1.out; have := HK2.out; have := HJ6.out; have := HJ15.out; have := HJ31.out; omega⟩, ⟨by (with_reducible repeat (first | apply Kd.R_alloc | apply Kd.R_drewN | apply Kd.R_drew)); exact Kd.R_mono HO166.out (fun _ hk => trivial)⟩, ⟨by repeat (first | (with_reducible first | exact HB.out | apply below_alloc | apply pw_below_drewN | apply below_drew1 | refine below_set ?_ GE162.out) | exact HB.out)⟩⟩
                                                      · rw [if_neg c55] at H
                                                        exact absurd H (by simp)
                                              · rw [if_neg c31] at H
                                                exact absurd H (by simp)
                                            · rw [if_neg c30] at H
                                              exact absurd H (by simp)
                                          · rw [if_neg c29] at H
                                            exact absurd H (by simp)
                                        · rw [if_neg c26] at H
                                          exact absurd H (by simp)
                                      · rw [if_neg c25] at H
                                        exact absurd H (by simp)
                                    · rw [if_neg c24] at H
                                      exact absurd H (by simp)
                                  · rw [if_neg c22] at H
                                    exact absurd H (by simp)
                                · rw [if_neg c21] at H
                                  exact absurd H (by simp)
                              · rw [if_neg c20] at H
                                exact absurd H (by simp)
                      · rw [if_neg c14] at H
                        exact absurd H (by simp)
                    · rw [if_neg c13] at H
                      exact absurd H (by simp)
                  · rw [if_neg c12] at H
                    exact absurd H (by simp)
                · replace c10 := Bool.eq_false_iff.mpr c10
                  subst c10
                  have H1 : (some (x4_2, x5_2)) = some (r1, r2) := by rw [if_neg (show ¬ (false = true) by decide)] at H; exact H
                  clear H
                  have H := H1
                  clear H1
                  simp only [Option.some.injEq, Prod.mk.injEq] at H
                  obtain ⟨rfl, rfl⟩ := H
                  go_wp2
                  go_ret2
                  exact ⟨_, by first | rfl | (simp [errW_none, errW_some] <;> rfl) | (simp [*, errW_none, errW_some] <;> rfl), by (with_reducible repeat (first | apply Kd.R_alloc | apply Kd.R_drewN | apply Kd.R_drew)); exact HO_4.out, by repeat (first | (with_reducible first | exact HB.out | apply below_alloc | apply pw_below_drewN | apply below_drew1) | exact HB.out)⟩

end Go.Proofs.Ytkolbflmihfokaa.Pcap
