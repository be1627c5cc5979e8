/- Printed by a program of this seat's session: what the Go functions compute, and that they do. -/
import Derived.Test.YtkolbflmihfokaaMergex0
import Derived.Test.YtkolbflmihfokaaMergex2
import Derived.Test.YtkolbflmihfokaaMergex7
namespace Go.Proofs.Ytkolbflmihfokaa.Merge
open Go.RowKit Go.Proofs.YtkolbflmihfokaaW.PrintWords Go.Proofs.YtkolbflmihfokaaW.PrintLast Go.Proofs.YtkolbflmihfokaaW.PrintMore
attribute [local go_sem] max2_int min2_int max_two min_two max_three min_three max_four min_four   -- for this text's walks alone
set_option linter.unusedVariables false
set_option linter.unusedSimpArgs false
set_option maxRecDepth 100000

/-! ### patchbaylaw4_PcapMerges: function 9 -/
mutual
def patchbaylaw4_PcapMerges.j0 : Nat → List (S26) → List (S26) → Bool → Option (Bool)
  | 0, _, _, _ => none
  | k + 1, x0, x1, x28 => if x28 = true then (some false) else ((pcap_Merge.f k x0 x1).bind fun bt177 => ((patchbayref4_CaptureFault.f k x0).bind fun t181 => (if t181 = 0 then ((patchbayref4_CaptureFault.f k x1).bind fun t182 => (patchbaylaw4_PcapMerges.j1 k x0 x1 bt177.1 bt177.2 t182)) else (patchbaylaw4_PcapMerges.j1 k x0 x1 bt177.1 bt177.2 t181))))
def patchbaylaw4_PcapMerges.j1 : Nat → List (S26) → List (S26) → List (S26) → Int → Int → Option (Bool)
  | 0, _, _, _, _, _ => none
  | k + 1, x0, x1, x8, x9, x10 => if x10 = 0 then (patchbaylaw4_PcapMerges.j2 k x0 x1 x8 x9 x10 (decide ((wrap64 ((x0.length : Int) + (x1.length : Int))) > 400))) else (patchbaylaw4_PcapMerges.j2 k x0 x1 x8 x9 x10 false)
def patchbaylaw4_PcapMerges.j2 : Nat → List (S26) → List (S26) → List (S26) → Int → Int → Bool → Option (Bool)
  | 0, _, _, _, _, _, _ => none
  | k + 1, x0, x1, x8, x9, x10, x50 => if x50 = true then (patchbaylaw4_PcapMerges.j3 k x0 x1 x8 x9 5) else (patchbaylaw4_PcapMerges.j3 k x0 x1 x8 x9 x10)
def patchbaylaw4_PcapMerges.j3 : Nat → List (S26) → List (S26) → List (S26) → Int → Int → Option (Bool)
  | 0, _, _, _, _, _ => none
  | k + 1, x0, x1, x8, x9, x10 => if x10 = 0 then (patchbaylaw4_PcapMerges.l0 k x0 x1 x8 x9 ([] : List (S26)) 0 0) else (if x9 = x10 then (some ((x8.length : Int) == 0)) else (some false))
def patchbaylaw4_PcapMerges.l0 : Nat → List (S26) → List (S26) → List (S26) → Int → List (S26) → Int → Int → Option (Bool)
  | 0, _, _, _, _, _, _, _ => none
  | k + 1, x0, x1, x8, x9, x11, x12, x13 => if x12 < (x0.length : Int) then (patchbaylaw4_PcapMerges.j5 k x0 x1 x8 x9 x11 x12 x13 true) else (patchbaylaw4_PcapMerges.j5 k x0 x1 x8 x9 x11 x12 x13 (decide (x13 < (x1.length : Int))))
def patchbaylaw4_PcapMerges.j5 : Nat → List (S26) → List (S26) → List (S26) → Int → List (S26) → Int → Int → Bool → Option (Bool)
  | 0, _, _, _, _, _, _, _, _ => none
  | k + 1, x0, x1, x8, x9, x11, x12, x13, x70 => if x70 = true then (if x13 = (x1.length : Int) then (if 0 ≤ x12 then (if x12 < (x0.length : Int) then (if x11.length < 2932031007402 then (patchbaylaw4_PcapMerges.l0 k x0 x1 x8 x9 (x11 ++ [(⟨(rd_T26 x0 x12).f0, (rd_T26 x0 x12).f1, (rd_T26 x0 x12).f2, (rd_T26 x0 x12).f3, (rd_T26 x0 x12).f4⟩ : S26)]) (wrap64 (x12 + 1)) x13) else (none)) else (none)) else (none)) else (if x12 < (x0.length : Int) then (if 0 ≤ x12 then (if 0 ≤ x13 then (if x13 < (x1.length : Int) then (if ((rd_T26 x0 x12).f0) ≤ ((rd_T26 x1 x13).f0) then (if x11.length < 2932031007402 then (patchbaylaw4_PcapMerges.l0 k x0 x1 x8 x9 (x11 ++ [(⟨(rd_T26 x0 x12).f0, (rd_T26 x0 x12).f1, (rd_T26 x0 x12).f2, (rd_T26 x0 x12).f3, (rd_T26 x0 x12).f4⟩ : S26)]) (wrap64 (x12 + 1)) x13) else (none)) else (if x11.length < 2932031007402 then (patchbaylaw4_PcapMerges.l0 k x0 x1 x8 x9 (x11 ++ [(⟨(rd_T26 x1 x13).f0, (rd_T26 x1 x13).f1, (rd_T26 x1 x13).f2, (rd_T26 x1 x13).f3, (rd_T26 x1 x13).f4⟩ : S26)]) x12 (wrap64 (x13 + 1))) else (none))) else (none)) else (none)) else (none)) else (if 0 ≤ x13 then (if x13 < (x1.length : Int) then (if x11.length < 2932031007402 then (patchbaylaw4_PcapMerges.l0 k x0 x1 x8 x9 (x11 ++ [(⟨(rd_T26 x1 x13).f0, (rd_T26 x1 x13).f1, (rd_T26 x1 x13).f2, (rd_T26 x1 x13).f3, (rd_T26 x1 x13).f4⟩ : S26)]) x12 (wrap64 (x13 + 1))) else (none)) else (none)) else (none)))) else (if x9 = 0 then ((patchbayref4_SameCapture.f k x8 x11).bind fun t201 => (some t201)) else (some false))
end
def patchbaylaw4_PcapMerges.f (k : Nat) (l0 : List (S26)) (l1 : List (S26)) : Option (Bool) := (some (([(⟨1, 0, 0, false, (⟨#[97]⟩ : ByteArray)⟩ : S26)] : List (S26)) : List (S26))).bind fun y170 => ((pcap_Merge.f k y170 y170).bind fun bt173 => (if bt173.2 = 0 then (patchbaylaw4_PcapMerges.j0 k l0 l1 ((bt173.1.length : Int) != 2)) else (patchbaylaw4_PcapMerges.j0 k l0 l1 true)))
theorem patchbaylaw4_PcapMerges.mono_l : ∀ k, (∀ y0 y1 y2, LeO (patchbaylaw4_PcapMerges.j0 k y0 y1 y2) (patchbaylaw4_PcapMerges.j0 (k + 1) y0 y1 y2)) ∧ (∀ y0 y1 y2 y3 y4, LeO (patchbaylaw4_PcapMerges.j1 k y0 y1 y2 y3 y4) (patchbaylaw4_PcapMerges.j1 (k + 1) y0 y1 y2 y3 y4)) ∧ (∀ y0 y1 y2 y3 y4 y5, LeO (patchbaylaw4_PcapMerges.j2 k y0 y1 y2 y3 y4 y5) (patchbaylaw4_PcapMerges.j2 (k + 1) y0 y1 y2 y3 y4 y5)) ∧ (∀ y0 y1 y2 y3 y4, LeO (patchbaylaw4_PcapMerges.j3 k y0 y1 y2 y3 y4) (patchbaylaw4_PcapMerges.j3 (k + 1) y0 y1 y2 y3 y4)) ∧ (∀ y0 y1 y2 y3 y4 y5 y6, LeO (patchbaylaw4_PcapMerges.l0 k y0 y1 y2 y3 y4 y5 y6) (patchbaylaw4_PcapMerges.l0 (k + 1) y0 y1 y2 y3 y4 y5 y6)) ∧ (∀ y0 y1 y2 y3 y4 y5 y6 y7, LeO (patchbaylaw4_PcapMerges.j5 k y0 y1 y2 y3 y4 y5 y6 y7) (patchbaylaw4_PcapMerges.j5 (k + 1) y0 y1 y2 y3 y4 y5 y6 y7))
  | 0 => ⟨fun _ _ _ r h => by simp [patchbaylaw4_PcapMerges.j0] at h, fun _ _ _ _ _ r h => by simp [patchbaylaw4_PcapMerges.j1] at h, fun _ _ _ _ _ _ r h => by simp [patchbaylaw4_PcapMerges.j2] at h, fun _ _ _ _ _ r h => by simp [patchbaylaw4_PcapMerges.j3] at h, fun _ _ _ _ _ _ _ r h => by simp [patchbaylaw4_PcapMerges.l0] at h, fun _ _ _ _ _ _ _ _ r h => by simp [patchbaylaw4_PcapMerges.j5] at h⟩
  | k + 1 => by
    obtain ⟨ih0, ih1, ih2, ih3, ih4, ih5⟩ := patchbaylaw4_PcapMerges.mono_l k
    refine ⟨?_, ?_, ?_, ?_, ?_, ?_⟩
    · intro y0 y1 y2
      unfold patchbaylaw4_PcapMerges.j0
      repeat' first
      | (with_reducible exact ih0 _ _ _)
      | (with_reducible exact ih1 _ _ _ _ _)
      | (with_reducible exact ih2 _ _ _ _ _ _)
      | (with_reducible exact ih3 _ _ _ _ _)
      | (with_reducible exact ih4 _ _ _ _ _ _ _)
      | (with_reducible exact ih5 _ _ _ _ _ _ _ _)
      | (with_reducible exact patchbayref4_CaptureFault.mono _ _)
      | (with_reducible exact patchbayref4_SameCapture.mono _ _ _)
      | (with_reducible exact pcap_Merge.mono _ _ _)
      | (with_reducible exact LeO.refl _)
      | (with_reducible exact LeO.none _)
      | (with_reducible refine LeO.ite ?_ ?_)
      | (with_reducible refine LeO.bind ?_ (fun _ => ?_))
      | exact ih0 _ _ _
      | exact ih1 _ _ _ _ _
      | exact ih2 _ _ _ _ _ _
      | exact ih3 _ _ _ _ _
      | exact ih4 _ _ _ _ _ _ _
      | exact ih5 _ _ _ _ _ _ _ _
      | exact patchbayref4_CaptureFault.mono _ _
      | exact patchbayref4_SameCapture.mono _ _ _
      | exact pcap_Merge.mono _ _ _
      | exact LeO.none _
      | refine LeO.ite ?_ ?_
      | refine LeO.bind ?_ (fun _ => ?_)
    · intro y0 y1 y2 y3 y4
      unfold patchbaylaw4_PcapMerges.j1
      repeat' first
      | (with_reducible exact ih0 _ _ _)
      | (with_reducible exact ih1 _ _ _ _ _)
      | (with_reducible exact ih2 _ _ _ _ _ _)
      | (with_reducible exact ih3 _ _ _ _ _)
      | (with_reducible exact ih4 _ _ _ _ _ _ _)
      | (with_reducible exact ih5 _ _ _ _ _ _ _ _)
      | (with_reducible exact patchbayref4_CaptureFault.mono _ _)
      | (with_reducible exact patchbayref4_SameCapture.mono _ _ _)
      | (with_reducible exact pcap_Merge.mono _ _ _)
      | (with_reducible exact LeO.refl _)
      | (with_reducible exact LeO.none _)
      | (with_reducible refine LeO.ite ?_ ?_)
      | (with_reducible refine LeO.bind ?_ (fun _ => ?_))
      | exact ih0 _ _ _
      | exact ih1 _ _ _ _ _
      | exact ih2 _ _ _ _ _ _
      | exact ih3 _ _ _ _ _
      | exact ih4 _ _ _ _ _ _ _
      | exact ih5 _ _ _ _ _ _ _ _
      | exact patchbayref4_CaptureFault.mono _ _
      | exact patchbayref4_SameCapture.mono _ _ _
      | exact pcap_Merge.mono _ _ _
      | exact LeO.none _
      | refine LeO.ite ?_ ?_
      | refine LeO.bind ?_ (fun _ => ?_)
    · intro y0 y1 y2 y3 y4 y5
      unfold patchbaylaw4_PcapMerges.j2
      repeat' first
      | (with_reducible exact ih0 _ _ _)
      | (with_reducible exact ih1 _ _ _ _ _)
      | (with_reducible exact ih2 _ _ _ _ _ _)
      | (with_reducible exact ih3 _ _ _ _ _)
      | (with_reducible exact ih4 _ _ _ _ _ _ _)
      | (with_reducible exact ih5 _ _ _ _ _ _ _ _)
      | (with_reducible exact patchbayref4_CaptureFault.mono _ _)
      | (with_reducible exact patchbayref4_SameCapture.mono _ _ _)
      | (with_reducible exact pcap_Merge.mono _ _ _)
      | (with_reducible exact LeO.refl _)
      | (with_reducible exact LeO.none _)
      | (with_reducible refine LeO.ite ?_ ?_)
      | (with_reducible refine LeO.bind ?_ (fun _ => ?_))
      | exact ih0 _ _ _
      | exact ih1 _ _ _ _ _
      | exact ih2 _ _ _ _ _ _
      | exact ih3 _ _ _ _ _
      | exact ih4 _ _ _ _ _ _ _
      | exact ih5 _ _ _ _ _ _ _ _
      | exact patchbayref4_CaptureFault.mono _ _
      | exact patchbayref4_SameCapture.mono _ _ _
      | exact pcap_Merge.mono _ _ _
      | exact LeO.none _
      | refine LeO.ite ?_ ?_
      | refine LeO.bind ?_ (fun _ => ?_)
    · intro y0 y1 y2 y3 y4
      unfold patchbaylaw4_PcapMerges.j3
      repeat' first
      | (with_reducible exact ih0 _ _ _)
      | (with_reducible exact ih1 _ _ _ _ _)
      | (with_reducible exact ih2 _ _ _ _ _ _)
      | (with_reducible exact ih3 _ _ _ _ _)
      | (with_reducible exact ih4 _ _ _ _ _ _ _)
      | (with_reducible exact ih5 _ _ _ _ _ _ _ _)
      | (with_reducible exact patchbayref4_CaptureFault.mono _ _)
      | (with_reducible exact patchbayref4_SameCapture.mono _ _ _)
      | (with_reducible exact pcap_Merge.mono _ _ _)
      | (with_reducible exact LeO.refl _)
      | (with_reducible exact LeO.none _)
      | (with_reducible refine LeO.ite ?_ ?_)
      | (with_reducible refine LeO.bind ?_ (fun _ => ?_))
      | exact ih0 _ _ _
      | exact ih1 _ _ _ _ _
      | exact ih2 _ _ _ _ _ _
      | exact ih3 _ _ _ _ _
      | exact ih4 _ _ _ _ _ _ _
      | exact ih5 _ _ _ _ _ _ _ _
      | exact patchbayref4_CaptureFault.mono _ _
      | exact patchbayref4_SameCapture.mono _ _ _
      | exact pcap_Merge.mono _ _ _
      | exact LeO.none _
      | refine LeO.ite ?_ ?_
      | refine LeO.bind ?_ (fun _ => ?_)
    · intro y0 y1 y2 y3 y4 y5 y6
      unfold patchbaylaw4_PcapMerges.l0
      repeat' first
      | (with_reducible exact ih0 _ _ _)
      | (with_reducible exact ih1 _ _ _ _ _)
      | (with_reducible exact ih2 _ _ _ _ _ _)
      | (with_reducible exact ih3 _ _ _ _ _)
      | (with_reducible exact ih4 _ _ _ _ _ _ _)
      | (with_reducible exact ih5 _ _ _ _ _ _ _ _)
      | (with_reducible exact patchbayref4_CaptureFault.mono _ _)
      | (with_reducible exact patchbayref4_SameCapture.mono _ _ _)
      | (with_reducible exact pcap_Merge.mono _ _ _)
      | (with_reducible exact LeO.refl _)
      | (with_reducible exact LeO.none _)
      | (with_reducible refine LeO.ite ?_ ?_)
      | (with_reducible refine LeO.bind ?_ (fun _ => ?_))
      | exact ih0 _ _ _
      | exact ih1 _ _ _ _ _
      | exact ih2 _ _ _ _ _ _
      | exact ih3 _ _ _ _ _
      | exact ih4 _ _ _ _ _ _ _
      | exact ih5 _ _ _ _ _ _ _ _
      | exact patchbayref4_CaptureFault.mono _ _
      | exact patchbayref4_SameCapture.mono _ _ _
      | exact pcap_Merge.mono _ _ _
      | exact LeO.none _
      | refine LeO.ite ?_ ?_
      | refine LeO.bind ?_ (fun _ => ?_)
    · intro y0 y1 y2 y3 y4 y5 y6 y7
      unfold patchbaylaw4_PcapMerges.j5
      repeat' first
      | (with_reducible exact ih0 _ _ _)
      | (with_reducible exact ih1 _ _ _ _ _)
      | (with_reducible exact ih2 _ _ _ _ _ _)
      | (with_reducible exact ih3 _ _ _ _ _)
      | (with_reducible exact ih4 _ _ _ _ _ _ _)
      | (with_reducible exact ih5 _ _ _ _ _ _ _ _)
      | (with_reducible exact patchbayref4_CaptureFault.mono _ _)
      | (with_reducible exact patchbayref4_SameCapture.mono _ _ _)
      | (with_reducible exact pcap_Merge.mono _ _ _)
      | (with_reducible exact LeO.refl _)
      | (with_reducible exact LeO.none _)
      | (with_reducible refine LeO.ite ?_ ?_)
      | (with_reducible refine LeO.bind ?_ (fun _ => ?_))
      | exact ih0 _ _ _
      | exact ih1 _ _ _ _ _
      | exact ih2 _ _ _ _ _ _
      | exact ih3 _ _ _ _ _
      | exact ih4 _ _ _ _ _ _ _
      | exact ih5 _ _ _ _ _ _ _ _
      | exact patchbayref4_CaptureFault.mono _ _
      | exact patchbayref4_SameCapture.mono _ _ _
      | exact pcap_Merge.mono _ _ _
      | exact LeO.none _
      | refine LeO.ite ?_ ?_
      | refine LeO.bind ?_ (fun _ => ?_)
theorem patchbaylaw4_PcapMerges.mono : ∀ a0 a1 k, LeO (patchbaylaw4_PcapMerges.f k a0 a1) (patchbaylaw4_PcapMerges.f (k + 1) a0 a1) := by
  intro a0 a1 k
  obtain ⟨ih0, ih1, ih2, ih3, ih4, ih5⟩ := patchbaylaw4_PcapMerges.mono_l k
  unfold patchbaylaw4_PcapMerges.f
  repeat' first
      | (with_reducible exact ih0 _ _ _)
      | (with_reducible exact ih1 _ _ _ _ _)
      | (with_reducible exact ih2 _ _ _ _ _ _)
      | (with_reducible exact ih3 _ _ _ _ _)
      | (with_reducible exact ih4 _ _ _ _ _ _ _)
      | (with_reducible exact ih5 _ _ _ _ _ _ _ _)
      | (with_reducible exact patchbayref4_CaptureFault.mono _ _)
      | (with_reducible exact patchbayref4_SameCapture.mono _ _ _)
      | (with_reducible exact pcap_Merge.mono _ _ _)
      | (with_reducible exact LeO.refl _)
      | (with_reducible exact LeO.none _)
      | (with_reducible refine LeO.ite ?_ ?_)
      | (with_reducible refine LeO.bind ?_ (fun _ => ?_))
      | exact ih0 _ _ _
      | exact ih1 _ _ _ _ _
      | exact ih2 _ _ _ _ _ _
      | exact ih3 _ _ _ _ _
      | exact ih4 _ _ _ _ _ _ _
      | exact ih5 _ _ _ _ _ _ _ _
      | exact patchbayref4_CaptureFault.mono _ _
      | exact patchbayref4_SameCapture.mono _ _ _
      | exact pcap_Merge.mono _ _ _
      | exact LeO.none _
      | refine LeO.ite ?_ ?_
      | refine LeO.bind ?_ (fun _ => ?_)
set_option maxHeartbeats 8000000 in
set_option maxRecDepth 100000 in
theorem patchbaylaw4_PcapMerges.calls (k : Nat) (A0 : Option Addr) (c0 : Nat) (l0 : List (S26)) (A1 : Option Addr) (c1 : Nat) (l1 : List (S26)) (r : Bool) (w : World) (hr0 : Kd.C k26 w A0 l0.length l0) (hc0 : l0.length ≤ c0) (hr1 : Kd.C k26 w A1 l1.length l1) (hc1 : l1.length ≤ c1) (h : patchbaylaw4_PcapMerges.f k l0 l1 = some r) :
    Calls Try.prog 9 #[.slice A0 l0.length c0, .slice A1 l1.length c1] w fun e w' => e = .returned (.bool r) ∧ Below w.heap.size w w' := by
  have hu26 := Try.underlying26
  have HR0 := Aside0.mk hr0
  have HC0 := Aside0.mk hc0
  clear hr0 hc0
  have HR1 := Aside0.mk hr1
  have HC1 := Aside0.mk hc1
  clear hr1 hc1
  have HB := Aside0.mk (Below.refl w.heap.size w)
  have H : ((some (([(⟨1, 0, 0, false, (⟨#[97]⟩ : ByteArray)⟩ : S26)] : List (S26)) : List (S26))).bind fun y170 => ((pcap_Merge.f k y170 y170).bind fun bt173 => (if bt173.2 = 0 then (patchbaylaw4_PcapMerges.j0 k l0 l1 ((bt173.1.length : Int) != 2)) else (patchbaylaw4_PcapMerges.j0 k l0 l1 true)))) = some r := h
  clear h
  obtain ⟨y170, hy170⟩ : ∃ y_ : List (S26), y_ = (([(⟨1, 0, 0, false, (⟨#[97]⟩ : ByteArray)⟩ : S26)] : List (S26))) := ⟨_, rfl⟩
  replace H : ((pcap_Merge.f k y170 y170).bind fun bt173 => (if bt173.2 = 0 then (patchbaylaw4_PcapMerges.j0 k l0 l1 ((bt173.1.length : Int) != 2)) else (patchbaylaw4_PcapMerges.j0 k l0 l1 true))) = some r := by first | (rw [hy170]; with_reducible exact H) | (have H2_ := (Option.bind_some _ _).symm.trans H; rw [hy170]; with_reducible exact H2_) | (have H2_ := (Option.bind_some _ _).symm.trans H; with_reducible exact H2_) | with_reducible exact H | (rw [hy170]; exact H) | exact H
  have Ny170 := Aside0.mk hy170
  clear hy170
  replace H := Option.bind_eq_some_iff.mp H
  obtain ⟨⟨t173, t176⟩, A30, H⟩ := H
  replace H : (if t176 = 0 then (patchbaylaw4_PcapMerges.j0 k l0 l1 ((t173.length : Int) != 2)) else (patchbaylaw4_PcapMerges.j0 k l0 l1 true)) = some r := H
  have A3 := Aside0.mk A30
  clear A30
  have HC4 := Aside0.mk H
  clear H
  go_enter Try.func9, Try.ntmps9
  go_upto_region 3 with (first | ((with_reducible refine gate_dst (N := 15) rfl ?_); (try (refine gate_guard (by rfl) ?_; dsimp only)); refine Kd.R_lit k26 _ 26 ?hg (N := 15) ?hd (xs := ([(⟨1, 0, 0, false, (⟨#[97]⟩ : ByteArray)⟩ : S26)] : List (S26))) (inner := [.int .i64 1, .int .i64 0, .int .i64 0, .bool false, .string (⟨#[97]⟩ : ByteArray)]) (ok := fun _ => True) (okp := fun _ => True) ?hr ?hp (fun _ hk => hk) trivial (Below.refl _ _) (Nat.le_refl _) (by simp) ?_; (case hd => rfl); (case hg => rfl); (case hr => first | (go_simp; done) | (go_simp; rfl)); (case hp => exact (Reps.c5 (show Kd.M k26 _ _ _ (⟨1, 0, 0, false, (⟨#[97]⟩ : ByteArray)⟩ : S26) [.int .i64 1, .int .i64 0, .int .i64 0, .bool false, .string (⟨#[97]⟩ : ByteArray)] from (k26_mkM _ _ _ (⟨1, 0, 0, false, (⟨#[97]⟩ : ByteArray)⟩ : S26) )) (Reps.none _ _))); intro v171 w5 ho6 hb hg_ hnew_; clear hg_ hnew_; (first | rw [← Ny170.out] at ho6 | (simp only [Int.reduceToNat] at ho6; rw [← Ny170.out] at ho6)); have n0_ := Aside0.mk (Kd.R_lower ho6 (below_size (by repeat (first | (with_reducible first | exact HB.out | apply below_alloc | apply pw_below_drewN | apply below_drew1) | exact HB.out)))); have n1_ := Aside0.mk (below_step (by repeat (first | (with_reducible first | exact HB.out | apply below_alloc | apply pw_below_drewN | apply below_drew1) | exact HB.out)) hb); clear HB; have HO172 := n0_; have HB := n1_; clear n0_ n1_; clear hb ho6; obtain ⟨Ao7, co7, eo7⟩ := Kd.R_slice HO172.out; subst eo7) | (go_at_call 26; (with_reducible refine (pcap_Merge.calls k (fun k_ => some k_ = (.slice Ao7 y170.length co7 : Value).ownBlock) _ _ y170 (fun k_ => some k_ = (.slice Ao7 y170.length co7 : Value).ownBlock) _ _ y170 t173 t176 _ ?side1 ?side2 A3.out).mono ?_); (case side1 => exact Kd.R_V (Kd.R_tight rfl (HO172.out))); (case side2 => exact Kd.R_V (Kd.R_tight rfl (HO172.out))); rintro e w8 ⟨v174, rfl, ho0, hb⟩; have n0_ := Aside0.mk (Kd.R_elder' (by (with_reducible repeat (first | apply Kd.R_alloc | apply Kd.R_drewN | apply Kd.R_drew)); exact HO172.out) (Kd.R_base ho0) hb); have n1_ := Aside0.mk (Kd.R_lower (Kd.R_new' (Kd.R_mono (ok' := fun k_ => True) ho0 (fun _ hk_ => trivial)) (Kd.R_lt (by (with_reducible repeat (first | apply Kd.R_alloc | apply Kd.R_drewN | apply Kd.R_drew)); exact HO172.out))) (below_size (by repeat (first | (with_reducible first | exact HB.out | apply below_alloc | apply pw_below_drewN | apply below_drew1) | exact HB.out)))); have n2_ := Aside0.mk (below_step (by repeat (first | (with_reducible first | exact HB.out | apply below_alloc | apply pw_below_drewN | apply below_drew1) | exact HB.out)) hb); clear HO172; clear HB; have HO172 := n0_; have HO175 := n1_; have HB := n2_; clear n0_ n1_ n2_; (try clear hb); (try clear hb2); (try clear hk); (try clear hi); (try clear ho0)))
  repeat (go_quiet (first | ((with_reducible refine gate_dst (N := 15) rfl ?_); (try (refine gate_guard (by rfl) ?_; dsimp only)); refine Kd.R_lit k26 _ 26 ?hg (N := 15) ?hd (xs := ([(⟨1, 0, 0, false, (⟨#[97]⟩ : ByteArray)⟩ : S26)] : List (S26))) (inner := [.int .i64 1, .int .i64 0, .int .i64 0, .bool false, .string (⟨#[97]⟩ : ByteArray)]) (ok := fun _ => True) (okp := fun _ => True) ?hr ?hp (fun _ hk => hk) trivial (Below.refl _ _) (Nat.le_refl _) (by simp) ?_; (case hd => rfl); (case hg => rfl); (case hr => first | (go_simp; done) | (go_simp; rfl)); (case hp => exact (Reps.c5 (show Kd.M k26 _ _ _ (⟨1, 0, 0, false, (⟨#[97]⟩ : ByteArray)⟩ : S26) [.int .i64 1, .int .i64 0, .int .i64 0, .bool false, .string (⟨#[97]⟩ : ByteArray)] from (k26_mkM _ _ _ (⟨1, 0, 0, false, (⟨#[97]⟩ : ByteArray)⟩ : S26) )) (Reps.none _ _))); intro v171 w5 ho6 hb hg_ hnew_; clear hg_ hnew_; (first | rw [← Ny170.out] at ho6 | (simp only [Int.reduceToNat] at ho6; rw [← Ny170.out] at ho6)); have n0_ := Aside0.mk (Kd.R_lower ho6 (below_size (by repeat (first | (with_reducible first | exact HB.out | apply below_alloc | apply pw_below_drewN | apply below_drew1) | exact HB.out)))); have n1_ := Aside0.mk (below_step (by repeat (first | (with_reducible first | exact HB.out | apply below_alloc | apply pw_below_drewN | apply below_drew1) | exact HB.out)) hb); clear HB; have HO172 := n0_; have HB := n1_; clear n0_ n1_; clear hb ho6; obtain ⟨Ao7, co7, eo7⟩ := Kd.R_slice HO172.out; subst eo7) | (go_at_call 26; (with_reducible refine (pcap_Merge.calls k (fun k_ => some k_ = (.slice Ao7 y170.length co7 : Value).ownBlock) _ _ y170 (fun k_ => some k_ = (.slice Ao7 y170.length co7 : Value).ownBlock) _ _ y170 t173 t176 _ ?side1 ?side2 A3.out).mono ?_); (case side1 => exact Kd.R_V (Kd.R_tight rfl (HO172.out))); (case side2 => exact Kd.R_V (Kd.R_tight rfl (HO172.out))); rintro e w8 ⟨v174, rfl, ho0, hb⟩; have n0_ := Aside0.mk (Kd.R_elder' (by (with_reducible repeat (first | apply Kd.R_alloc | apply Kd.R_drewN | apply Kd.R_drew)); exact HO172.out) (Kd.R_base ho0) hb); have n1_ := Aside0.mk (Kd.R_lower (Kd.R_new' (Kd.R_mono (ok' := fun k_ => True) ho0 (fun _ hk_ => trivial)) (Kd.R_lt (by (with_reducible repeat (first | apply Kd.R_alloc | apply Kd.R_drewN | apply Kd.R_drew)); exact HO172.out))) (below_size (by repeat (first | (with_reducible first | exact HB.out | apply below_alloc | apply pw_below_drewN | apply below_drew1) | exact HB.out)))); have n2_ := Aside0.mk (below_step (by repeat (first | (with_reducible first | exact HB.out | apply below_alloc | apply pw_below_drewN | apply below_drew1) | exact HB.out)) hb); clear HO172; clear HB; have HO172 := n0_; have HO175 := n1_; have HB := n2_; clear n0_ n1_ n2_; (try clear hb); (try clear hb2); (try clear hk); (try clear hi); (try clear ho0))); go_upto_region 3 with (first | ((with_reducible refine gate_dst (N := 15) rfl ?_); (try (refine gate_guard (by rfl) ?_; dsimp only)); refine Kd.R_lit k26 _ 26 ?hg (N := 15) ?hd (xs := ([(⟨1, 0, 0, false, (⟨#[97]⟩ : ByteArray)⟩ : S26)] : List (S26))) (inner := [.int .i64 1, .int .i64 0, .int .i64 0, .bool false, .string (⟨#[97]⟩ : ByteArray)]) (ok := fun _ => True) (okp := fun _ => True) ?hr ?hp (fun _ hk => hk) trivial (Below.refl _ _) (Nat.le_refl _) (by simp) ?_; (case hd => rfl); (case hg => rfl); (case hr => first | (go_simp; done) | (go_simp; rfl)); (case hp => exact (Reps.c5 (show Kd.M k26 _ _ _ (⟨1, 0, 0, false, (⟨#[97]⟩ : ByteArray)⟩ : S26) [.int .i64 1, .int .i64 0, .int .i64 0, .bool false, .string (⟨#[97]⟩ : ByteArray)] from (k26_mkM _ _ _ (⟨1, 0, 0, false, (⟨#[97]⟩ : ByteArray)⟩ : S26) )) (Reps.none _ _))); intro v171 w5 ho6 hb hg_ hnew_; clear hg_ hnew_; (first | rw [← Ny170.out] at ho6 | (simp only [Int.reduceToNat] at ho6; rw [← Ny170.out] at ho6)); have n0_ := Aside0.mk (Kd.R_lower ho6 (below_size (by repeat (first | (with_reducible first | exact HB.out | apply below_alloc | apply pw_below_drewN | apply below_drew1) | exact HB.out)))); have n1_ := Aside0.mk (below_step (by repeat (first | (with_reducible first | exact HB.out | apply below_alloc | apply pw_below_drewN | apply below_drew1) | exact HB.out)) hb); clear HB; have HO172 := n0_; have HB := n1_; clear n0_ n1_; clear hb ho6; obtain ⟨Ao7, co7, eo7⟩ := Kd.R_slice HO172.out; subst eo7) | (go_at_call 26; (with_reducible refine (pcap_Merge.calls k (fun k_ => some k_ = (.slice Ao7 y170.length co7 : Value).ownBlock) _ _ y170 (fun k_ => some k_ = (.slice Ao7 y170.length co7 : Value).ownBlock) _ _ y170 t173 t176 _ ?side1 ?side2 A3.out).mono ?_); (case side1 => exact Kd.R_V (Kd.R_tight rfl (HO172.out))); (case side2 => exact Kd.R_V (Kd.R_tight rfl (HO172.out))); rintro e w8 ⟨v174, rfl, ho0, hb⟩; have n0_ := Aside0.mk (Kd.R_elder' (by (with_reducible repeat (first | apply Kd.R_alloc | apply Kd.R_drewN | apply Kd.R_drew)); exact HO172.out) (Kd.R_base ho0) hb); have n1_ := Aside0.mk (Kd.R_lower (Kd.R_new' (Kd.R_mono (ok' := fun k_ => True) ho0 (fun _ hk_ => trivial)) (Kd.R_lt (by (with_reducible repeat (first | apply Kd.R_alloc | apply Kd.R_drewN | apply Kd.R_drew)); exact HO172.out))) (below_size (by repeat (first | (with_reducible first | exact HB.out | apply below_alloc | apply pw_below_drewN | apply below_drew1) | exact HB.out)))); have n2_ := Aside0.mk (below_step (by repeat (first | (with_reducible first | exact HB.out | apply below_alloc | apply pw_below_drewN | apply below_drew1) | exact HB.out)) hb); clear HO172; clear HB; have HO172 := n0_; have HO175 := n1_; have HB := n2_; clear n0_ n1_ n2_; (try clear hb); (try clear hb2); (try clear hk); (try clear hi); (try clear ho0))))
  (try simp only [Act.put, List.setIfInBounds_toArray, List.set_cons_zero, List.set_cons_succ])
  go_cut [28] (fun v28 wc => ∃ (kq : Nat) (x28_3 : Bool), v28 = .bool x28_3 ∧ Aside0 (patchbaylaw4_PcapMerges.j0 kq l0 l1 x28_3 = some r) ∧ Aside0 (kq ≤ k) ∧ Aside0 (Below w.heap.size w wc))
  case first =>
    have H := HC4.out
    clear HC4
    by_cases c9 : t176 = 0
    · rw [if_pos c9] at H
      have c9b0 : (t176 == 0) = true := beq_iff_eq.mpr c9
      have c9b1 : (t176 != 0) = false := bne_eq_false_iff_eq.mpr c9
      clear c9
      (first | rw [c9b0] | (simp only [i64_w, i32_w]; rw [c9b0]) | skip)
      have H' := Aside0.mk H
      clear H
      obtain ⟨Ao10, co10, eo10⟩ := Kd.R_slice HO175.out
      subst eo10
      go_wp2
      repeat (go_quiet (fail); try go_wp2)
      go_meet
      case rel => exact ⟨_, (((t173.length : Int) != 2)), (by first | rfl | (simp; done) | (simp [*]; done)), (by first | exact H' | (subst_vars; exact H')), ⟨by first | omega | exact Nat.le_refl _⟩, ⟨by repeat (first | (with_reducible first | exact HB.out | apply below_alloc | apply pw_below_drewN | apply below_drew1) | exact HB.out)⟩⟩
    · rw [if_neg c9] at H
      have c9b0 : (t176 == 0) = false := beq_eq_false_iff_ne.mpr c9
      have c9b1 : (t176 != 0) = true := bne_iff_ne.mpr c9
      (first | rw [c9b0] | (simp only [i64_w, i32_w]; rw [c9b0]) | skip)
      have H' := Aside0.mk H
      clear H
      go_wp2
      repeat (go_quiet (fail); try go_wp2)
      go_meet
      case rel => exact ⟨_, (true), (by first | rfl | (simp; done) | (simp [*]; done)), (by first | exact H' | (subst_vars; exact H')), ⟨by first | omega | exact Nat.le_refl _⟩, ⟨by repeat (first | (with_reducible first | exact HB.out | apply below_alloc | apply pw_below_drewN | apply below_drew1) | exact HB.out)⟩⟩
  case rest =>
    clear HC4
    try clear c1
    try clear p2
    try clear c5
    try clear c9
    try clear c9b0
    try clear c9b1
    obtain ⟨kq, x28_3, rfl, HA, HJ3, HB⟩ := hcut
    cases kq with
    | zero => exact absurd HA.out (by simp [patchbaylaw4_PcapMerges.j0])
    | succ kj3 =>
      have H := HA.out
      clear HA
      simp only [patchbaylaw4_PcapMerges.j0] at H
      by_cases c11 : x28_3 = true
      · subst c11
        have H1 : (some false) = some r := by rw [if_pos rfl] at H; exact H
        clear H
        have H := H1
        clear H1
        obtain rfl := Option.some.inj H
        go_wp2
        repeat (go_quiet (fail); try go_wp2)
        go_ret
        exact ⟨by first | rfl | (simp [errW_none, errW_some] <;> rfl) | (simp [*, errW_none, errW_some] <;> rfl), by repeat (first | (with_reducible first | exact HB.out | apply below_alloc | apply pw_below_drewN | apply below_drew1) | exact HB.out)⟩
      · replace c11 := Bool.eq_false_iff.mpr c11
        subst c11
        have H1 : ((pcap_Merge.f kj3 l0 l1).bind fun bt177 => ((patchbayref4_CaptureFault.f kj3 l0).bind fun t181 => (if t181 = 0 then ((patchbayref4_CaptureFault.f kj3 l1).bind fun t182 => (patchbaylaw4_PcapMerges.j1 kj3 l0 l1 bt177.1 bt177.2 t182)) else (patchbaylaw4_PcapMerges.j1 kj3 l0 l1 bt177.1 bt177.2 t181)))) = some r := by rw [if_neg (show ¬ (false = true) by decide)] at H; exact H
        clear H
        have H := H1
        clear H1
        replace H := Option.bind_eq_some_iff.mp H
        obtain ⟨⟨t177, t180⟩, A120, H⟩ := H
        replace H : ((patchbayref4_CaptureFault.f kj3 l0).bind fun t181 => (if t181 = 0 then ((patchbayref4_CaptureFault.f kj3 l1).bind fun t182 => (patchbaylaw4_PcapMerges.j1 kj3 l0 l1 t177 t180 t182)) else (patchbaylaw4_PcapMerges.j1 kj3 l0 l1 t177 t180 t181))) = some r := H
        have A12 := Aside0.mk A120
        clear A120
        replace H := Option.bind_eq_some_iff.mp H
        obtain ⟨t181, A130, H⟩ := H
        replace H : (if t181 = 0 then ((patchbayref4_CaptureFault.f kj3 l1).bind fun t182 => (patchbaylaw4_PcapMerges.j1 kj3 l0 l1 t177 t180 t182)) else (patchbaylaw4_PcapMerges.j1 kj3 l0 l1 t177 t180 t181)) = some r := H
        have A13 := Aside0.mk A130
        clear A130
        have HC14 := Aside0.mk H
        clear H
        go_upto_if 38 with (first | (go_at_call 26; (with_reducible refine (pcap_Merge.calls kj3 (fun k_ => k_ < w.heap.size) _ _ l0 (fun k_ => k_ < w.heap.size) _ _ l1 t177 t180 _ ?side1 ?side2 A12.out).mono ?_); (case side1 => exact Kd.V_mk HC0.out (Kd.F_below (Kd.C_F k26_heap HR0.out) (by repeat (first | (with_reducible first | exact HB.out | apply below_alloc | apply pw_below_drewN | apply below_drew1) | exact HB.out)))); (case side2 => exact Kd.V_mk HC1.out (Kd.F_below (Kd.C_F k26_heap HR1.out) (by repeat (first | (with_reducible first | exact HB.out | apply below_alloc | apply pw_below_drewN | apply below_drew1) | exact HB.out)))); rintro e w15 ⟨v178, rfl, ho0, hb⟩; have n0_ := Aside0.mk (Kd.R_lower (Kd.R_mono (ok' := fun k_ => True) ho0 (fun _ hk_ => trivial)) (below_size (by repeat (first | (with_reducible first | exact HB.out | apply below_alloc | apply pw_below_drewN | apply below_drew1) | exact HB.out)))); have n1_ := Aside0.mk (below_step (by repeat (first | (with_reducible first | exact HB.out | apply below_alloc | apply pw_below_drewN | apply below_drew1) | exact HB.out)) hb); clear HB; have HO179 := n0_; have HB := n1_; clear n0_ n1_; (try clear hb); (try clear hb2); (try clear hk); (try clear hi); (try clear ho0)) | (go_at_call 14; (with_reducible refine (patchbayref4_CaptureFault.calls kj3 _ _ l0 t181 _ ?side1 ?side2 A13.out).mono ?_); (case side1 => repeat (first | exact (Kd.C_below HR0.out HB.out) | (with_reducible refine Kd.C_alloc ?_ _) | (with_reducible refine Kd.C_drewN ?_ _) | (with_reducible refine Kd.C_drew ?_))); (case side2 => exact HC0.out); rintro e w16 ⟨rfl, hb⟩; have n0_ := Aside0.mk (Kd.R_below (by (with_reducible repeat (first | apply Kd.R_alloc | apply Kd.R_drewN | apply Kd.R_drew)); exact HO179.out) hb); have n1_ := Aside0.mk (below_step (by repeat (first | (with_reducible first | exact HB.out | apply below_alloc | apply pw_below_drewN | apply below_drew1) | exact HB.out)) hb); clear HO179; clear HB; have HO179 := n0_; have HB := n1_; clear n0_ n1_; (try clear hb); (try clear hb2); (try clear hk); (try clear hi)))
        repeat (go_quiet (first | (go_at_call 26; (with_reducible refine (pcap_Merge.calls kj3 (fun k_ => k_ < w.heap.size) _ _ l0 (fun k_ => k_ < w.heap.size) _ _ l1 t177 t180 _ ?side1 ?side2 A12.out).mono ?_); (case side1 => exact Kd.V_mk HC0.out (Kd.F_below (Kd.C_F k26_heap HR0.out) (by repeat (first | (with_reducible first | exact HB.out | apply below_alloc | apply pw_below_drewN | apply below_drew1) | exact HB.out)))); (case side2 => exact Kd.V_mk HC1.out (Kd.F_below (Kd.C_F k26_heap HR1.out) (by repeat (first | (with_reducible first | exact HB.out | apply below_alloc | apply pw_below_drewN | apply below_drew1) | exact HB.out)))); rintro e w15 ⟨v178, rfl, ho0, hb⟩; have n0_ := Aside0.mk (Kd.R_lower (Kd.R_mono (ok' := fun k_ => True) ho0 (fun _ hk_ => trivial)) (below_size (by repeat (first | (with_reducible first | exact HB.out | apply below_alloc | apply pw_below_drewN | apply below_drew1) | exact HB.out)))); have n1_ := Aside0.mk (below_step (by repeat (first | (with_reducible first | exact HB.out | apply below_alloc | apply pw_below_drewN | apply below_drew1) | exact HB.out)) hb); clear HB; have HO179 := n0_; have HB := n1_; clear n0_ n1_; (try clear hb); (try clear hb2); (try clear hk); (try clear hi); (try clear ho0)) | (go_at_call 14; (with_reducible refine (patchbayref4_CaptureFault.calls kj3 _ _ l0 t181 _ ?side1 ?side2 A13.out).mono ?_); (case side1 => repeat (first | exact (Kd.C_below HR0.out HB.out) | (with_reducible refine Kd.C_alloc ?_ _) | (with_reducible refine Kd.C_drewN ?_ _) | (with_reducible refine Kd.C_drew ?_))); (case side2 => exact HC0.out); rintro e w16 ⟨rfl, hb⟩; have n0_ := Aside0.mk (Kd.R_below (by (with_reducible repeat (first | apply Kd.R_alloc | apply Kd.R_drewN | apply Kd.R_drew)); exact HO179.out) hb); have n1_ := Aside0.mk (below_step (by repeat (first | (with_reducible first | exact HB.out | apply below_alloc | apply pw_below_drewN | apply below_drew1) | exact HB.out)) hb); clear HO179; clear HB; have HO179 := n0_; have HB := n1_; clear n0_ n1_; (try clear hb); (try clear hb2); (try clear hk); (try clear hi))); go_upto_if 38 with (first | (go_at_call 26; (with_reducible refine (pcap_Merge.calls kj3 (fun k_ => k_ < w.heap.size) _ _ l0 (fun k_ => k_ < w.heap.size) _ _ l1 t177 t180 _ ?side1 ?side2 A12.out).mono ?_); (case side1 => exact Kd.V_mk HC0.out (Kd.F_below (Kd.C_F k26_heap HR0.out) (by repeat (first | (with_reducible first | exact HB.out | apply below_alloc | apply pw_below_drewN | apply below_drew1) | exact HB.out)))); (case side2 => exact Kd.V_mk HC1.out (Kd.F_below (Kd.C_F k26_heap HR1.out) (by repeat (first | (with_reducible first | exact HB.out | apply below_alloc | apply pw_below_drewN | apply below_drew1) | exact HB.out)))); rintro e w15 ⟨v178, rfl, ho0, hb⟩; have n0_ := Aside0.mk (Kd.R_lower (Kd.R_mono (ok' := fun k_ => True) ho0 (fun _ hk_ => trivial)) (below_size (by repeat (first | (with_reducible first | exact HB.out | apply below_alloc | apply pw_below_drewN | apply below_drew1) | exact HB.out)))); have n1_ := Aside0.mk (below_step (by repeat (first | (with_reducible first | exact HB.out | apply below_alloc | apply pw_below_drewN | apply below_drew1) | exact HB.out)) hb); clear HB; have HO179 := n0_; have HB := n1_; clear n0_ n1_; (try clear hb); (try clear hb2); (try clear hk); (try clear hi); (try clear ho0)) | (go_at_call 14; (with_reducible refine (patchbayref4_CaptureFault.calls kj3 _ _ l0 t181 _ ?side1 ?side2 A13.out).mono ?_); (case side1 => repeat (first | exact (Kd.C_below HR0.out HB.out) | (with_reducible refine Kd.C_alloc ?_ _) | (with_reducible refine Kd.C_drewN ?_ _) | (with_reducible refine Kd.C_drew ?_))); (case side2 => exact HC0.out); rintro e w16 ⟨rfl, hb⟩; have n0_ := Aside0.mk (Kd.R_below (by (with_reducible repeat (first | apply Kd.R_alloc | apply Kd.R_drewN | apply Kd.R_drew)); exact HO179.out) hb); have n1_ := Aside0.mk (below_step (by repeat (first | (with_reducible first | exact HB.out | apply below_alloc | apply pw_below_drewN | apply below_drew1) | exact HB.out)) hb); clear HO179; clear HB; have HO179 := n0_; have HB := n1_; clear n0_ n1_; (try clear hb); (try clear hb2); (try clear hk); (try clear hi))))
        (try simp only [Act.put, List.setIfInBounds_toArray, List.set_cons_zero, List.set_cons_succ])
        go_cut [10] (fun v10 wc => ∃ (kq : Nat) (x10_13 : Int), v10 = .int .i64 x10_13 ∧ Aside0 (patchbaylaw4_PcapMerges.j1 kq l0 l1 t177 t180 x10_13 = some r) ∧ Aside0 (kq ≤ kj3) ∧ Aside0 (Kd.R k26 26 wc w.heap.size (fun _ => True) v178 t177) ∧ Aside0 (Below w.heap.size w wc))
        case first =>
          have H := HC14.out
          clear HC14
          by_cases c17 : t181 = 0
          · rw [if_pos c17] at H
            have c17b0 : (t181 == 0) = true := beq_iff_eq.mpr c17
            have c17b1 : (t181 != 0) = false := bne_eq_false_iff_eq.mpr c17
            clear c17
            (first | rw [c17b0] | (simp only [i64_w, i32_w]; rw [c17b0]) | skip)
            replace H := Option.bind_eq_some_iff.mp H
            obtain ⟨t182, A180, H⟩ := H
            replace H : (patchbaylaw4_PcapMerges.j1 kj3 l0 l1 t177 t180 t182) = some r := H
            have A18 := Aside0.mk A180
            clear A180
            have H' := Aside0.mk H
            clear H
            go_wp2_with (first | (go_at_call 14; (with_reducible refine (patchbayref4_CaptureFault.calls kj3 _ _ l1 t182 _ ?side1 ?side2 A18.out).mono ?_); (case side1 => repeat (first | exact (Kd.C_below HR1.out HB.out) | (with_reducible refine Kd.C_alloc ?_ _) | (with_reducible refine Kd.C_drewN ?_ _) | (with_reducible refine Kd.C_drew ?_))); (case side2 => exact HC1.out); rintro e w19 ⟨rfl, hb⟩; have n0_ := Aside0.mk (Kd.R_below (by (with_reducible repeat (first | apply Kd.R_alloc | apply Kd.R_drewN | apply Kd.R_drew)); exact HO179.out) hb); have n1_ := Aside0.mk (below_step (by repeat (first | (with_reducible first | exact HB.out | apply below_alloc | apply pw_below_drewN | apply below_drew1) | exact HB.out)) hb); clear HO179; clear HB; have HO179 := n0_; have HB := n1_; clear n0_ n1_; (try clear hb); (try clear hb2); (try clear hk); (try clear hi)))
            repeat (go_quiet (first | (go_at_call 14; (with_reducible refine (patchbayref4_CaptureFault.calls kj3 _ _ l1 t182 _ ?side1 ?side2 A18.out).mono ?_); (case side1 => repeat (first | exact (Kd.C_below HR1.out HB.out) | (with_reducible refine Kd.C_alloc ?_ _) | (with_reducible refine Kd.C_drewN ?_ _) | (with_reducible refine Kd.C_drew ?_))); (case side2 => exact HC1.out); rintro e w19 ⟨rfl, hb⟩; have n0_ := Aside0.mk (Kd.R_below (by (with_reducible repeat (first | apply Kd.R_alloc | apply Kd.R_drewN | apply Kd.R_drew)); exact HO179.out) hb); have n1_ := Aside0.mk (below_step (by repeat (first | (with_reducible first | exact HB.out | apply below_alloc | apply pw_below_drewN | apply below_drew1) | exact HB.out)) hb); clear HO179; clear HB; have HO179 := n0_; have HB := n1_; clear n0_ n1_; (try clear hb); (try clear hb2); (try clear hk); (try clear hi))); try go_wp2_with (first | (go_at_call 14; (with_reducible refine (patchbayref4_CaptureFault.calls kj3 _ _ l1 t182 _ ?side1 ?side2 A18.out).mono ?_); (case side1 => repeat (first | exact (Kd.C_below HR1.out HB.out) | (with_reducible refine Kd.C_alloc ?_ _) | (with_reducible refine Kd.C_drewN ?_ _) | (with_reducible refine Kd.C_drew ?_))); (case side2 => exact HC1.out); rintro e w19 ⟨rfl, hb⟩; have n0_ := Aside0.mk (Kd.R_below (by (with_reducible repeat (first | apply Kd.R_alloc | apply Kd.R_drewN | apply Kd.R_drew)); exact HO179.out) hb); have n1_ := Aside0.mk (below_step (by repeat (first | (with_reducible first | exact HB.out | apply below_alloc | apply pw_below_drewN | apply below_drew1) | exact HB.out)) hb); clear HO179; clear HB; have HO179 := n0_; have HB := n1_; clear n0_ n1_; (try clear hb); (try clear hb2); (try clear hk); (try clear hi))))
            go_meet
            case rel => exact ⟨_, (t182), (by first | rfl | (simp; done) | (simp [*]; done)), (by first | exact H' | (subst_vars; exact H')), ⟨by have := HJ3.out; first | omega | exact Nat.le_refl _⟩, ⟨by (with_reducible repeat (first | apply Kd.R_alloc | apply Kd.R_drewN | apply Kd.R_drew)); exact HO179.out⟩, ⟨by repeat (first | (with_reducible first | exact HB.out | apply below_alloc | apply pw_below_drewN | apply below_drew1) | exact HB.out)⟩⟩
          · rw [if_neg c17] at H
            have c17b0 : (t181 == 0) = false := beq_eq_false_iff_ne.mpr c17
            have c17b1 : (t181 != 0) = true := bne_iff_ne.mpr c17
            (first | rw [c17b0] | (simp only [i64_w, i32_w]; rw [c17b0]) | skip)
            have H' := Aside0.mk H
            clear H
            go_wp2
            repeat (go_quiet (fail); try go_wp2)
            go_meet
            case rel => exact ⟨_, (t181), (by first | rfl | (simp; done) | (simp [*]; done)), (by first | exact H' | (subst_vars; exact H')), ⟨by have := HJ3.out; first | omega | exact Nat.le_refl _⟩, ⟨by (with_reducible repeat (first | apply Kd.R_alloc | apply Kd.R_drewN | apply Kd.R_drew)); exact HO179.out⟩, ⟨by repeat (first | (with_reducible first | exact HB.out | apply below_alloc | apply pw_below_drewN | apply below_drew1) | exact HB.out)⟩⟩
        case rest =>
          clear HC14
          try clear c1
          try clear p2
          try clear c5
          try clear c9
          try clear c9b0
          try clear c9b1
          try clear c11
          try clear c17
          try clear c17b0
          try clear c17b1
          try clear p2
          obtain ⟨kq, x10_13, rfl, HA, HJ13, HO_8, HB⟩ := hcut
          cases kq with
          | zero => exact absurd HA.out (by simp [patchbaylaw4_PcapMerges.j1])
          | succ kj13 =>
            have H := HA.out
            clear HA
            simp only [patchbaylaw4_PcapMerges.j1] at H
            have HC20 := Aside0.mk H
            clear H
            go_upto_region 9 with (fail)
            repeat (go_quiet (fail); go_upto_region 9 with (fail))
            go_cut [50] (fun v50 wc => ∃ (kq : Nat) (x50_19 : Bool), v50 = .bool x50_19 ∧ Aside0 (patchbaylaw4_PcapMerges.j2 kq l0 l1 t177 t180 x10_13 x50_19 = some r) ∧ Aside0 (kq ≤ kj13) ∧ Aside0 (Kd.R k26 26 wc w.heap.size (fun _ => True) v178 t177) ∧ Aside0 (Below w.heap.size w wc))
            case first =>
              have H := HC20.out
              clear HC20
              by_cases c21 : x10_13 = 0
              · rw [if_pos c21] at H
                have c21b0 : (x10_13 == 0) = true := beq_iff_eq.mpr c21
                have c21b1 : (x10_13 != 0) = false := bne_eq_false_iff_eq.mpr c21
                clear c21
                (first | rw [c21b0] | (simp only [i64_w, i32_w]; rw [c21b0]) | skip)
                have H' := Aside0.mk H
                clear H
                go_wp2
                repeat (go_quiet (fail); try go_wp2)
                go_meet
                case rel => exact ⟨_, (decide ((wrap64 ((l0.length : Int) + (l1.length : Int))) > 400)), (by first | rfl | (simp; done) | (simp [*]; done)), (by first | exact H' | (subst_vars; exact H')), ⟨by have := HJ3.out; have := HJ13.out; first | omega | exact Nat.le_refl _⟩, ⟨by (with_reducible repeat (first | apply Kd.R_alloc | apply Kd.R_drewN | apply Kd.R_drew)); exact HO_8.out⟩, ⟨by repeat (first | (with_reducible first | exact HB.out | apply below_alloc | apply pw_below_drewN | apply below_drew1) | exact HB.out)⟩⟩
              · rw [if_neg c21] at H
                have c21b0 : (x10_13 == 0) = false := beq_eq_false_iff_ne.mpr c21
                have c21b1 : (x10_13 != 0) = true := bne_iff_ne.mpr c21
                (first | rw [c21b0] | (simp only [i64_w, i32_w]; rw [c21b0]) | skip)
                have H' := Aside0.mk H
                clear H
                go_wp2
                repeat (go_quiet (fail); try go_wp2)
                go_meet
                case rel => exact ⟨_, (false), (by first | rfl | (simp; done) | (simp [*]; done)), (by first | exact H' | (subst_vars; exact H')), ⟨by have := HJ3.out; have := HJ13.out; first | omega | exact Nat.le_refl _⟩, ⟨by (with_reducible repeat (first | apply Kd.R_alloc | apply Kd.R_drewN | apply Kd.R_drew)); exact HO_8.out⟩, ⟨by repeat (first | (with_reducible first | exact HB.out | apply below_alloc | apply pw_below_drewN | apply below_drew1) | exact HB.out)⟩⟩
            case rest =>
              clear HC20
              try clear c1
              try clear c2
              try clear p2
              try clear c5
              try clear p6
              try clear c9
              try clear c9b0
              try clear c9b1
              try clear c11
              try clear c17
              try clear c17b0
              try clear c17b1
              try clear c21
              try clear c21b0
              try clear c21b1
              try clear p2
              obtain ⟨kq, x50_19, rfl, HA, HJ19, HO_8, HB⟩ := hcut
              cases kq with
              | zero => exact absurd HA.out (by simp [patchbaylaw4_PcapMerges.j2])
              | succ kj19 =>
                have H := HA.out
                clear HA
                simp only [patchbaylaw4_PcapMerges.j2] at H
                have HC22 := Aside0.mk H
                clear H
                go_upto_if 50 with (fail)
                repeat (go_quiet (fail); go_upto_if 50 with (fail))
                go_cut [10] (fun v10 wc => ∃ (kq : Nat) (x10_21 : Int), v10 = .int .i64 x10_21 ∧ Aside0 (patchbaylaw4_PcapMerges.j3 kq l0 l1 t177 t180 x10_21 = some r) ∧ Aside0 (kq ≤ kj19) ∧ Aside0 (Kd.R k26 26 wc w.heap.size (fun _ => True) v178 t177) ∧ Aside0 (Below w.heap.size w wc))
                case first =>
                  have H := HC22.out
                  clear HC22
                  by_cases c23 : x50_19 = true
                  · subst c23
                    have H1 : (patchbaylaw4_PcapMerges.j3 kj19 l0 l1 t177 t180 5) = some r := by rw [if_pos rfl] at H; exact H
                    clear H
                    have H := H1
                    clear H1
                    have H' := Aside0.mk H
                    clear H
                    go_wp2
                    repeat (go_quiet (fail); try go_wp2)
                    go_meet
                    case rel => exact ⟨_, (5), (by first | rfl | (simp; done) | (simp [*]; done)), (by first | exact H' | (subst_vars; exact H')), ⟨by have := HJ3.out; have := HJ13.out; have := HJ19.out; first | omega | exact Nat.le_refl _⟩, ⟨by (with_reducible repeat (first | apply Kd.R_alloc | apply Kd.R_drewN | apply Kd.R_drew)); exact HO_8.out⟩, ⟨by repeat (first | (with_reducible first | exact HB.out | apply below_alloc | apply pw_below_drewN | apply below_drew1) | exact HB.out)⟩⟩
                  · replace c23 := Bool.eq_false_iff.mpr c23
                    subst c23
                    have H1 : (patchbaylaw4_PcapMerges.j3 kj19 l0 l1 t177 t180 x10_13) = some r := by rw [if_neg (show ¬ (false = true) by decide)] at H; exact H
                    clear H
                    have H := H1
                    clear H1
                    have H' := Aside0.mk H
                    clear H
                    go_wp2
                    repeat (go_quiet (fail); try go_wp2)
                    go_meet
                    case rel => exact ⟨_, (x10_13), (by first | rfl | (simp; done) | (simp [*]; done)), (by first | exact H' | (subst_vars; exact H')), ⟨by have := HJ3.out; have := HJ13.out; have := HJ19.out; first | omega | exact Nat.le_refl _⟩, ⟨by (with_reducible repeat (first | apply Kd.R_alloc | apply Kd.R_drewN | apply Kd.R_drew)); exact HO_8.out⟩, ⟨by repeat (first | (with_reducible first | exact HB.out | apply below_alloc | apply pw_below_drewN | apply below_drew1) | exact HB.out)⟩⟩
                case rest =>
                  clear HC22
                  try clear c1
                  try clear c2
                  try clear p2
                  try clear c5
                  try clear p6
                  try clear c9
                  try clear c9b0
                  try clear c9b1
                  try clear c11
                  try clear c17
                  try clear c17b0
                  try clear c17b1
                  try clear c21
                  try clear c21b0
                  try clear c21b1
                  try clear c23
                  try clear p2
                  try clear p6
                  obtain ⟨kq, x10_21, rfl, HA, HJ21, HO_8, HB⟩ := hcut
                  cases kq with
                  | zero => exact absurd HA.out (by simp [patchbaylaw4_PcapMerges.j3])
                  | succ kj21 =>
                    have H := HA.out
                    clear HA
                    simp only [patchbaylaw4_PcapMerges.j3] at H
                    by_cases c24 : x10_21 = 0
                    · rw [if_pos c24] at H
                      have c24b0 : (x10_21 == 0) = true := beq_iff_eq.mpr c24
                      have c24b1 : (x10_21 != 0) = false := bne_eq_false_iff_eq.mpr c24
                      clear c24
                      have H' := Aside0.mk H
                      clear H
                      go_wp2
                      repeat (go_quiet (fail); try go_wp2)
                      (try simp only [Act.put, List.setIfInBounds_toArray, List.set_cons_zero, List.set_cons_succ])
                      go_loopg [11, 12, 13] kj21 (fun kq v11 v12 v13 w' => ∃ (x11_5 : List (S26)) (x12_5 : Int) (x13_5 : Int), v12 = .int .i64 x12_5 ∧ v13 = .int .i64 x13_5 ∧ Aside0 (patchbaylaw4_PcapMerges.l0 kq l0 l1 t177 t180 x11_5 x12_5 x13_5 = some r) ∧ Aside0 (kq ≤ kj21) ∧ Aside0 (Kd.R k26 26 w' w.heap.size (fun k_ => some k_ ≠ (v11 : Value).ownBlock) v178 t177) ∧ Aside0 (Kd.R k26 26 w' w.heap.size (fun k_ => some k_ ≠ (v178 : Value).ownBlock) v11 x11_5) ∧ Aside0 (Below w.heap.size w w'))
                      case atStart => exact ⟨(([] : List (S26))), (0), (0), (by first | rfl | (simp; done) | (simp [*]; done)), (by first | rfl | (simp; done) | (simp [*]; done)), H', ⟨Nat.le_refl _⟩, ⟨by (with_reducible repeat (first | apply Kd.R_alloc | apply Kd.R_drewN | apply Kd.R_drew)); exact Kd.R_mono HO_8.out (fun _ hk => (by simp [Value.ownBlock]))⟩, ⟨by first | exact Kd.R_nil _ _ _ _ _ | exact Kd.N_nil _ _ _ _ _ | exact Kd.V_nil _ _ _ _ _ | exact Kd.Q_nil _ _ _ _ _ | exact Kd.S_nil _ _ _ _ _⟩, ⟨by repeat (first | (with_reducible first | exact HB.out | apply below_alloc | apply pw_below_drewN | apply below_drew1) | exact HB.out)⟩⟩
                      case round =>
                        clear H'
                        try clear c1
                        try clear c2
                        try clear p2
                        try clear c5
                        try clear p6
                        try clear c9
                        try clear c9b0
                        try clear c9b1
                        try clear c11
                        try clear c17
                        try clear c17b0
                        try clear c17b1
                        try clear c21
                        try clear c21b0
                        try clear c21b1
                        try clear c23
                        try clear c24
                        try clear c24b0
                        try clear c24b1
                        try clear p2
                        try clear p6
                        obtain ⟨x11_5, x12_5, x13_5, rfl, rfl, HA, HK5, HO_8, HO_11, HB⟩ := hrel
                        cases gk with
                        | zero => exact absurd HA.out (by simp [patchbaylaw4_PcapMerges.l0])
                        | succ k5 =>
                          have H := HA.out
                          clear HA
                          simp only [patchbaylaw4_PcapMerges.l0] at H
                          have HC25 := Aside0.mk H
                          clear H
                          go_upto_region 15 with (fail)
                          repeat (go_quiet (fail); go_upto_region 15 with (fail))
                          go_cut [70] (fun v70 wc => ∃ (kq : Nat) (x70_24 : Bool), v70 = .bool x70_24 ∧ Aside0 (patchbaylaw4_PcapMerges.j5 kq l0 l1 t177 t180 x11_5 x12_5 x13_5 x70_24 = some r) ∧ Aside0 (kq ≤ k5) ∧ Aside0 (Kd.R k26 26 wc w.heap.size (fun k_ => some k_ ≠ (u11 : Value).ownBlock) v178 t177) ∧ Aside0 (Kd.R k26 26 wc w.heap.size (fun k_ => some k_ ≠ (v178 : Value).ownBlock) u11 x11_5) ∧ Aside0 (Below w.heap.size w wc))
                          case first =>
                            have H := HC25.out
                            clear HC25
                            by_cases c26 : x12_5 < (l0.length : Int)
                            · rw [if_pos c26] at H
                              have c26b0 : decide (x12_5 < (l0.length : Int)) = true := decide_eq_true c26
                              clear c26
                              (first | rw [c26b0] | (simp only [i64_w, i32_w]; rw [c26b0]) | skip)
                              have H' := Aside0.mk H
                              clear H
                              go_wp2
                              repeat (go_quiet (fail); try go_wp2)
                              go_meet
                              case rel => exact ⟨_, (true), (by first | rfl | (simp; done) | (simp [*]; done)), (by first | exact H' | (subst_vars; exact H')), ⟨by have := HJ3.out; have := HJ13.out; have := HJ19.out; have := HJ21.out; have := HK5.out; first | omega | exact Nat.le_refl _⟩, ⟨by (with_reducible repeat (first | apply Kd.R_alloc | apply Kd.R_drewN | apply Kd.R_drew)); exact HO_8.out⟩, ⟨by (with_reducible repeat (first | apply Kd.R_alloc | apply Kd.R_drewN | apply Kd.R_drew)); exact HO_11.out⟩, ⟨by repeat (first | (with_reducible first | exact HB.out | apply below_alloc | apply pw_below_drewN | apply below_drew1) | exact HB.out)⟩⟩
                            · rw [if_neg c26] at H
                              have c26b0 : decide (x12_5 < (l0.length : Int)) = false := decide_eq_false c26
                              clear c26
                              (first | rw [c26b0] | (simp only [i64_w, i32_w]; rw [c26b0]) | skip)
                              have H' := Aside0.mk H
                              clear H
                              go_wp2
                              repeat (go_quiet (fail); try go_wp2)
                              go_meet
                              case rel => exact ⟨_, (decide (x13_5 < (l1.length : Int))), (by first | rfl | (simp; done) | (simp [*]; done)), (by first | exact H' | (subst_vars; exact H')), ⟨by have := HJ3.out; have := HJ13.out; have := HJ19.out; have := HJ21.out; have := HK5.out; first | omega | exact Nat.le_refl _⟩, ⟨by (with_reducible repeat (first | apply Kd.R_alloc | apply Kd.R_drewN | apply Kd.R_drew)); exact HO_8.out⟩, ⟨by (with_reducible repeat (first | apply Kd.R_alloc | apply Kd.R_drewN | apply Kd.R_drew)); exact HO_11.out⟩, ⟨by repeat (first | (with_reducible first | exact HB.out | apply below_alloc | apply pw_below_drewN | apply below_drew1) | exact HB.out)⟩⟩
                          case rest =>
                            clear HC25
                            try clear c1
                            try clear c2
                            try clear p2
                            try clear c5
                            try clear p6
                            try clear c9
                            try clear c9b0
                            try clear c9b1
                            try clear c11
                            try clear c17
                            try clear c17b0
                            try clear c17b1
                            try clear c21
                            try clear c21b0
                            try clear c21b1
                            try clear c23
                            try clear c24
                            try clear c24b0
                            try clear c24b1
                            try clear c26
                            try clear c26b0
                            try clear p2
                            try clear p6
                            obtain ⟨kq, x70_24, rfl, HA, HJ24, HO_8, HO_11, HB⟩ := hcut
                            cases kq with
                            | zero => exact absurd HA.out (by simp [patchbaylaw4_PcapMerges.j5])
                            | succ kj24 =>
                              have H := HA.out
                              clear HA
                              simp only [patchbaylaw4_PcapMerges.j5] at H
                              by_cases c27 : x70_24 = true
                              · subst c27
                                have H1 : (if x13_5 = (l1.length : Int) then (if 0 ≤ x12_5 then (if x12_5 < (l0.length : Int) then (if x11_5.length < 2932031007402 then (patchbaylaw4_PcapMerges.l0 kj24 l0 l1 t177 t180 (x11_5 ++ [(⟨(rd_T26 l0 x12_5).f0, (rd_T26 l0 x12_5).f1, (rd_T26 l0 x12_5).f2, (rd_T26 l0 x12_5).f3, (rd_T26 l0 x12_5).f4⟩ : S26)]) (wrap64 (x12_5 + 1)) x13_5) else (none)) else (none)) else (none)) else (if x12_5 < (l0.length : Int) then (if 0 ≤ x12_5 then (if 0 ≤ x13_5 then (if x13_5 < (l1.length : Int) then (if ((rd_T26 l0 x12_5).f0) ≤ ((rd_T26 l1 x13_5).f0) then (if x11_5.length < 2932031007402 then (patchbaylaw4_PcapMerges.l0 kj24 l0 l1 t177 t180 (x11_5 ++ [(⟨(rd_T26 l0 x12_5).f0, (rd_T26 l0 x12_5).f1, (rd_T26 l0 x12_5).f2, (rd_T26 l0 x12_5).f3, (rd_T26 l0 x12_5).f4⟩ : S26)]) (wrap64 (x12_5 + 1)) x13_5) else (none)) else (if x11_5.length < 2932031007402 then (patchbaylaw4_PcapMerges.l0 kj24 l0 l1 t177 t180 (x11_5 ++ [(⟨(rd_T26 l1 x13_5).f0, (rd_T26 l1 x13_5).f1, (rd_T26 l1 x13_5).f2, (rd_T26 l1 x13_5).f3, (rd_T26 l1 x13_5).f4⟩ : S26)]) x12_5 (wrap64 (x13_5 + 1))) else (none))) else (none)) else (none)) else (none)) else (if 0 ≤ x13_5 then (if x13_5 < (l1.length : Int) then (if x11_5.length < 2932031007402 then (patchbaylaw4_PcapMerges.l0 kj24 l0 l1 t177 t180 (x11_5 ++ [(⟨(rd_T26 l1 x13_5).f0, (rd_T26 l1 x13_5).f1, (rd_T26 l1 x13_5).f2, (rd_T26 l1 x13_5).f3, (rd_T26 l1 x13_5).f4⟩ : S26)]) x12_5 (wrap64 (x13_5 + 1))) else (none)) else (none)) else (none)))) = some r := by rw [if_pos rfl] at H; exact H
                                clear H
                                have H := H1
                                clear H1
                                by_cases c28 : x13_5 = (l1.length : Int)
                                · rw [if_pos c28] at H
                                  have c28b0 : (x13_5 == (l1.length : Int)) = true := beq_iff_eq.mpr c28
                                  have c28b1 : (x13_5 != (l1.length : Int)) = false := bne_eq_false_iff_eq.mpr c28
                                  clear c28
                                  by_cases c29 : 0 ≤ x12_5
                                  · rw [if_pos c29] at H
                                    have c29b0 : decide (0 ≤ x12_5) = true := decide_eq_true c29
                                    clear c29
                                    by_cases c30 : x12_5 < (l0.length : Int)
                                    · rw [if_pos c30] at H
                                      have c30b0 : decide (x12_5 < (l0.length : Int)) = true := decide_eq_true c30
                                      clear c30
                                      by_cases c31 : x11_5.length < 2932031007402
                                      · rw [if_pos c31] at H
                                        have LMc31 := Aside0.mk c31
                                        clear c31
                                        obtain ⟨y184, hy184⟩ : ∃ y_ : List (S26), y_ = (x11_5 ++ [(⟨(rd_T26 l0 x12_5).f0, (rd_T26 l0 x12_5).f1, (rd_T26 l0 x12_5).f2, (rd_T26 l0 x12_5).f3, (rd_T26 l0 x12_5).f4⟩ : S26)]) := ⟨_, rfl⟩
                                        replace H : (patchbaylaw4_PcapMerges.l0 kj24 l0 l1 t177 t180 y184 (wrap64 (x12_5 + 1)) x13_5) = some r := by first | (rw [hy184]; with_reducible exact H) | (have H2_ := (Option.bind_some _ _).symm.trans H; rw [hy184]; with_reducible exact H2_) | (have H2_ := (Option.bind_some _ _).symm.trans H; with_reducible exact H2_) | with_reducible exact H | (rw [hy184]; exact H) | exact H
                                        have Ny184 := Aside0.mk hy184
                                        clear hy184
                                        have H' := Aside0.mk H
                                        clear H
                                        have p183 : 0 ≤ (x12_5 : Int) := of_decide_eq_true (by first | (with_reducible assumption) | assumption)
                                        have q183 : x12_5 < (l0.length : Int) := of_decide_eq_true (by first | (with_reducible assumption) | assumption)
                                        obtain ⟨ad183, e183, hx183_0, hx183_1, hx183_2, hx183_3, hx183_4⟩ := at_T26 HR0.out x12_5 p183 q183
                                        cases e183
                                        replace hx183_0 := (HB.out.cell (World.block_lt_of_cell? w _ hx183_0)).trans hx183_0
                                        replace hx183_1 := (HB.out.cell (World.block_lt_of_cell? w _ hx183_1)).trans hx183_1
                                        replace hx183_2 := (HB.out.cell (World.block_lt_of_cell? w _ hx183_2)).trans hx183_2
                                        replace hx183_3 := (HB.out.cell (World.block_lt_of_cell? w _ hx183_3)).trans hx183_3
                                        replace hx183_4 := (HB.out.cell (World.block_lt_of_cell? w _ hx183_4)).trans hx183_4
                                        replace p183 := eq_true p183
                                        replace q183 := eq_true q183
                                        go_wp2_with (first | ((with_reducible refine gate_builtin (b := .append) (xs := #[.tmp 94, .tmp 99]) rfl ?_); (try (refine gate_guard (by rfl) ?_; dsimp only)); at_builtin; refine Kd.R_append k26 (w0 := w) w.heap.size rfl (.tmp 94) (.tmp 99) 22 26 (.agg #[(.int .i64 0), (.int .i64 0), (.int .i64 0), (.bool false), (.string ⟨#[]⟩)]) 48 rfl Try.underlying22 info26 rfl (by decide) (by omega) u11 x11_5 (⟨(rd_T26 l0 x12_5).f0, (rd_T26 l0 x12_5).f1, (rd_T26 l0 x12_5).f2, (rd_T26 l0 x12_5).f3, (rd_T26 l0 x12_5).f4⟩ : S26) [.int .i64 ((rd_T26 l0 x12_5).f0), .int .i64 ((rd_T26 l0 x12_5).f1), .int .i64 ((rd_T26 l0 x12_5).f2), .bool ((rd_T26 l0 x12_5).f3), .string ((rd_T26 l0 x12_5).f4)] (fun k_ => some k_ ≠ (v178 : Value).ownBlock) (fun _ => False) rfl rfl ?aP (fun _ hk => hk.elim) ?aF ?aO ?aB ?aS ?aL ?_; (case aP => exact k26_mkM _ _ _ (⟨(rd_T26 l0 x12_5).f0, (rd_T26 l0 x12_5).f1, (rd_T26 l0 x12_5).f2, (rd_T26 l0 x12_5).f3, (rd_T26 l0 x12_5).f4⟩ : S26)); (case aB => exact (by repeat (first | (with_reducible first | exact HB.out | apply below_alloc | apply pw_below_drewN | apply below_drew1) | exact HB.out))); (case aF => exact (fun k_ hk => Kd.fresh' (Kd.R_lt (by (with_reducible repeat (first | apply Kd.R_alloc | apply Kd.R_drewN | apply Kd.R_drew)); exact HO_8.out)) k_ hk)); (case aO => exact (by (with_reducible repeat (first | apply Kd.R_alloc | apply Kd.R_drewN | apply Kd.R_drew)); exact HO_11.out)); (case aS => exact (below_size (by repeat (first | (with_reducible first | exact HB.out | apply below_alloc | apply pw_below_drewN | apply below_drew1) | exact HB.out)))); (case aL => have := LMc31.out; omega); intro v185 w32 ho hb hg hat; rw [← Ny184.out] at ho; have n0_ := Aside0.mk (Kd.R_after (ok := (fun _ => True)) (by (with_reducible repeat (first | apply Kd.R_alloc | apply Kd.R_drewN | apply Kd.R_drew)); exact Kd.R_mono HO_8.out (fun _ hk => ⟨trivial, hk⟩)) hg hat); have n1_ := Aside0.mk (hb); have n2_ := Aside0.mk (ho); clear HO_8; clear HB; clear HO_11; have HO_8 := n0_; have HB := n1_; have HO186 := n2_; clear n0_ n1_ n2_; clear ho hb hg hat))
                                        repeat (go_quiet (first | ((with_reducible refine gate_builtin (b := .append) (xs := #[.tmp 94, .tmp 99]) rfl ?_); (try (refine gate_guard (by rfl) ?_; dsimp only)); at_builtin; refine Kd.R_append k26 (w0 := w) w.heap.size rfl (.tmp 94) (.tmp 99) 22 26 (.agg #[(.int .i64 0), (.int .i64 0), (.int .i64 0), (.bool false), (.string ⟨#[]⟩)]) 48 rfl Try.underlying22 info26 rfl (by decide) (by omega) u11 x11_5 (⟨(rd_T26 l0 x12_5).f0, (rd_T26 l0 x12_5).f1, (rd_T26 l0 x12_5).f2, (rd_T26 l0 x12_5).f3, (rd_T26 l0 x12_5).f4⟩ : S26) [.int .i64 ((rd_T26 l0 x12_5).f0), .int .i64 ((rd_T26 l0 x12_5).f1), .int .i64 ((rd_T26 l0 x12_5).f2), .bool ((rd_T26 l0 x12_5).f3), .string ((rd_T26 l0 x12_5).f4)] (fun k_ => some k_ ≠ (v178 : Value).ownBlock) (fun _ => False) rfl rfl ?aP (fun _ hk => hk.elim) ?aF ?aO ?aB ?aS ?aL ?_; (case aP => exact k26_mkM _ _ _ (⟨(rd_T26 l0 x12_5).f0, (rd_T26 l0 x12_5).f1, (rd_T26 l0 x12_5).f2, (rd_T26 l0 x12_5).f3, (rd_T26 l0 x12_5).f4⟩ : S26)); (case aB => exact (by repeat (first | (with_reducible first | exact HB.out | apply below_alloc | apply pw_below_drewN | apply below_drew1) | exact HB.out))); (case aF => exact (fun k_ hk => Kd.fresh' (Kd.R_lt (by (with_reducible repeat (first | apply Kd.R_alloc | apply Kd.R_drewN | apply Kd.R_drew)); exact HO_8.out)) k_ hk)); (case aO => exact (by (with_reducible repeat (first | apply Kd.R_alloc | apply Kd.R_drewN | apply Kd.R_drew)); exact HO_11.out)); (case aS => exact (below_size (by repeat (first | (with_reducible first | exact HB.out | apply below_alloc | apply pw_below_drewN | apply below_drew1) | exact HB.out)))); (case aL => have := LMc31.out; omega); intro v185 w32 ho hb hg hat; rw [← Ny184.out] at ho; have n0_ := Aside0.mk (Kd.R_after (ok := (fun _ => True)) (by (with_reducible repeat (first | apply Kd.R_alloc | apply Kd.R_drewN | apply Kd.R_drew)); exact Kd.R_mono HO_8.out (fun _ hk => ⟨trivial, hk⟩)) hg hat); have n1_ := Aside0.mk (hb); have n2_ := Aside0.mk (ho); clear HO_8; clear HB; clear HO_11; have HO_8 := n0_; have HB := n1_; have HO186 := n2_; clear n0_ n1_ n2_; clear ho hb hg hat)); try go_wp2_with (first | ((with_reducible refine gate_builtin (b := .append) (xs := #[.tmp 94, .tmp 99]) rfl ?_); (try (refine gate_guard (by rfl) ?_; dsimp only)); at_builtin; refine Kd.R_append k26 (w0 := w) w.heap.size rfl (.tmp 94) (.tmp 99) 22 26 (.agg #[(.int .i64 0), (.int .i64 0), (.int .i64 0), (.bool false), (.string ⟨#[]⟩)]) 48 rfl Try.underlying22 info26 rfl (by decide) (by omega) u11 x11_5 (⟨(rd_T26 l0 x12_5).f0, (rd_T26 l0 x12_5).f1, (rd_T26 l0 x12_5).f2, (rd_T26 l0 x12_5).f3, (rd_T26 l0 x12_5).f4⟩ : S26) [.int .i64 ((rd_T26 l0 x12_5).f0), .int .i64 ((rd_T26 l0 x12_5).f1), .int .i64 ((rd_T26 l0 x12_5).f2), .bool ((rd_T26 l0 x12_5).f3), .string ((rd_T26 l0 x12_5).f4)] (fun k_ => some k_ ≠ (v178 : Value).ownBlock) (fun _ => False) rfl rfl ?aP (fun _ hk => hk.elim) ?aF ?aO ?aB ?aS ?aL ?_; (case aP => exact k26_mkM _ _ _ (⟨(rd_T26 l0 x12_5).f0, (rd_T26 l0 x12_5).f1, (rd_T26 l0 x12_5).f2, (rd_T26 l0 x12_5).f3, (rd_T26 l0 x12_5).f4⟩ : S26)); (case aB => exact (by repeat (first | (with_reducible first | exact HB.out | apply below_alloc | apply pw_below_drewN | apply below_drew1) | exact HB.out))); (case aF => exact (fun k_ hk => Kd.fresh' (Kd.R_lt (by (with_reducible repeat (first | apply Kd.R_alloc | apply Kd.R_drewN | apply Kd.R_drew)); exact HO_8.out)) k_ hk)); (case aO => exact (by (with_reducible repeat (first | apply Kd.R_alloc | apply Kd.R_drewN | apply Kd.R_drew)); exact HO_11.out)); (case aS => exact (below_size (by repeat (first | (with_reducible first | exact HB.out | apply below_alloc | apply pw_below_drewN | apply below_drew1) | exact HB.out)))); (case aL => have := LMc31.out; omega); intro v185 w32 ho hb hg hat; rw [← Ny184.out] at ho; have n0_ := Aside0.mk (Kd.R_after (ok := (fun _ => True)) (by (with_reducible repeat (first | apply Kd.R_alloc | apply Kd.R_drewN | apply Kd.R_drew)); exact Kd.R_mono HO_8.out (fun _ hk => ⟨trivial, hk⟩)) hg hat); have n1_ := Aside0.mk (hb); have n2_ := Aside0.mk (ho); clear HO_8; clear HB; clear HO_11; have HO_8 := n0_; have HB := n1_; have HO186 := n2_; clear n0_ n1_ n2_; clear ho hb hg hat)))
                                        go_roundg kj24
                                        case measure => have := HJ3.out; have := HJ13.out; have := HJ19.out; have := HJ21.out; have := HK5.out; have := HJ24.out; omega
                                        case rel => exact ⟨(y184), (wrap64 (x12_5 + 1)), (x13_5), (by first | rfl | (simp; done) | (simp [*]; done)), (by first | rfl | (simp; done) | (simp [*]; done)), H', ⟨by have := HJ3.out; have := HJ13.out; have := HJ19.out; have := HJ21.out; have := HK5.out; have := HJ24.out; omega⟩, ⟨by (with_reducible repeat (first | apply Kd.R_alloc | apply Kd.R_drewN | apply Kd.R_drew)); exact Kd.R_mono HO_8.out (fun _ hk => hk.2)⟩, ⟨by (with_reducible repeat (first | apply Kd.R_alloc | apply Kd.R_drewN | apply Kd.R_drew)); exact HO186.out⟩, ⟨by repeat (first | (with_reducible first | exact HB.out | apply below_alloc | apply pw_below_drewN | apply below_drew1) | exact HB.out)⟩⟩
                                      · rw [if_neg c31] at H
                                        exact absurd H (by simp)
                                    · rw [if_neg c30] at H
                                      exact absurd H (by simp)
                                  · rw [if_neg c29] at H
                                    exact absurd H (by simp)
                                · rw [if_neg c28] at H
                                  have c28b0 : (x13_5 == (l1.length : Int)) = false := beq_eq_false_iff_ne.mpr c28
                                  have c28b1 : (x13_5 != (l1.length : Int)) = true := bne_iff_ne.mpr c28
                                  by_cases c33 : x12_5 < (l0.length : Int)
                                  · rw [if_pos c33] at H
                                    have c33b0 : decide (x12_5 < (l0.length : Int)) = true := decide_eq_true c33
                                    clear c33
                                    by_cases c34 : 0 ≤ x12_5
                                    · rw [if_pos c34] at H
                                      have c34b0 : decide (0 ≤ x12_5) = true := decide_eq_true c34
                                      clear c34
                                      by_cases c35 : 0 ≤ x13_5
                                      · rw [if_pos c35] at H
                                        have c35b0 : decide (0 ≤ x13_5) = true := decide_eq_true c35
                                        clear c35
                                        by_cases c36 : x13_5 < (l1.length : Int)
                                        · rw [if_pos c36] at H
                                          have c36b0 : decide (x13_5 < (l1.length : Int)) = true := decide_eq_true c36
                                          clear c36
                                          by_cases c37 : ((rd_T26 l0 x12_5).f0) ≤ ((rd_T26 l1 x13_5).f0)
                                          · rw [if_pos c37] at H
                                            have c37b0 : decide (((rd_T26 l0 x12_5).f0) ≤ ((rd_T26 l1 x13_5).f0)) = true := decide_eq_true c37
                                            clear c37
                                            by_cases c38 : x11_5.length < 2932031007402
                                            · rw [if_pos c38] at H
                                              have LMc38 := Aside0.mk c38
                                              clear c38
                                              obtain ⟨y190, hy190⟩ : ∃ y_ : List (S26), y_ = (x11_5 ++ [(⟨(rd_T26 l0 x12_5).f0, (rd_T26 l0 x12_5).f1, (rd_T26 l0 x12_5).f2, (rd_T26 l0 x12_5).f3, (rd_T26 l0 x12_5).f4⟩ : S26)]) := ⟨_, rfl⟩
                                              replace H : (patchbaylaw4_PcapMerges.l0 kj24 l0 l1 t177 t180 y190 (wrap64 (x12_5 + 1)) x13_5) = some r := by first | (rw [hy190]; with_reducible exact H) | (have H2_ := (Option.bind_some _ _).symm.trans H; rw [hy190]; with_reducible exact H2_) | (have H2_ := (Option.bind_some _ _).symm.trans H; with_reducible exact H2_) | with_reducible exact H | (rw [hy190]; exact H) | exact H
                                              have Ny190 := Aside0.mk hy190
                                              clear hy190
                                              have H' := Aside0.mk H
                                              clear H
                                              have p187 : 0 ≤ (x12_5 : Int) := of_decide_eq_true (by first | (with_reducible assumption) | assumption)
                                              have q187 : x12_5 < (l0.length : Int) := of_decide_eq_true (by first | (with_reducible assumption) | assumption)
                                              obtain ⟨ad187, e187, hx187_0, hx187_1, hx187_2, hx187_3, hx187_4⟩ := at_T26 HR0.out x12_5 p187 q187
                                              cases e187
                                              replace hx187_0 := (HB.out.cell (World.block_lt_of_cell? w _ hx187_0)).trans hx187_0
                                              replace hx187_1 := (HB.out.cell (World.block_lt_of_cell? w _ hx187_1)).trans hx187_1
                                              replace hx187_2 := (HB.out.cell (World.block_lt_of_cell? w _ hx187_2)).trans hx187_2
                                              replace hx187_3 := (HB.out.cell (World.block_lt_of_cell? w _ hx187_3)).trans hx187_3
                                              replace hx187_4 := (HB.out.cell (World.block_lt_of_cell? w _ hx187_4)).trans hx187_4
                                              replace p187 := eq_true p187
                                              replace q187 := eq_true q187
                                              have p188 : 0 ≤ (x13_5 : Int) := of_decide_eq_true (by first | (with_reducible assumption) | assumption)
                                              have q188 : x13_5 < (l1.length : Int) := of_decide_eq_true (by first | (with_reducible assumption) | assumption)
                                              obtain ⟨ad188, e188, hx188_0, hx188_1, hx188_2, hx188_3, hx188_4⟩ := at_T26 HR1.out x13_5 p188 q188
                                              cases e188
                                              replace hx188_0 := (HB.out.cell (World.block_lt_of_cell? w _ hx188_0)).trans hx188_0
                                              replace hx188_1 := (HB.out.cell (World.block_lt_of_cell? w _ hx188_1)).trans hx188_1
                                              replace hx188_2 := (HB.out.cell (World.block_lt_of_cell? w _ hx188_2)).trans hx188_2
                                              replace hx188_3 := (HB.out.cell (World.block_lt_of_cell? w _ hx188_3)).trans hx188_3
                                              replace hx188_4 := (HB.out.cell (World.block_lt_of_cell? w _ hx188_4)).trans hx188_4
                                              replace p188 := eq_true p188
                                              replace q188 := eq_true q188
                                              have p189 : 0 ≤ (x12_5 : Int) := of_decide_eq_true (by first | (with_reducible assumption) | assumption)
                                              have q189 : x12_5 < (l0.length : Int) := of_decide_eq_true (by first | (with_reducible assumption) | assumption)
                                              obtain ⟨ad189, e189, hx189_0, hx189_1, hx189_2, hx189_3, hx189_4⟩ := at_T26 HR0.out x12_5 p189 q189
                                              obtain rfl : ad187 = ad189 := (by injection e189)
                                              replace hx189_0 := (HB.out.cell (World.block_lt_of_cell? w _ hx189_0)).trans hx189_0
                                              replace hx189_1 := (HB.out.cell (World.block_lt_of_cell? w _ hx189_1)).trans hx189_1
                                              replace hx189_2 := (HB.out.cell (World.block_lt_of_cell? w _ hx189_2)).trans hx189_2
                                              replace hx189_3 := (HB.out.cell (World.block_lt_of_cell? w _ hx189_3)).trans hx189_3
                                              replace hx189_4 := (HB.out.cell (World.block_lt_of_cell? w _ hx189_4)).trans hx189_4
                                              replace p189 := eq_true p189
                                              replace q189 := eq_true q189
                                              go_wp2_with (first | ((with_reducible refine gate_builtin (b := .append) (xs := #[.tmp 94, .tmp 99]) rfl ?_); (try (refine gate_guard (by rfl) ?_; dsimp only)); at_builtin; refine Kd.R_append k26 (w0 := w) w.heap.size rfl (.tmp 94) (.tmp 99) 22 26 (.agg #[(.int .i64 0), (.int .i64 0), (.int .i64 0), (.bool false), (.string ⟨#[]⟩)]) 48 rfl Try.underlying22 info26 rfl (by decide) (by omega) u11 x11_5 (⟨(rd_T26 l0 x12_5).f0, (rd_T26 l0 x12_5).f1, (rd_T26 l0 x12_5).f2, (rd_T26 l0 x12_5).f3, (rd_T26 l0 x12_5).f4⟩ : S26) [.int .i64 ((rd_T26 l0 x12_5).f0), .int .i64 ((rd_T26 l0 x12_5).f1), .int .i64 ((rd_T26 l0 x12_5).f2), .bool ((rd_T26 l0 x12_5).f3), .string ((rd_T26 l0 x12_5).f4)] (fun k_ => some k_ ≠ (v178 : Value).ownBlock) (fun _ => False) rfl rfl ?aP (fun _ hk => hk.elim) ?aF ?aO ?aB ?aS ?aL ?_; (case aP => exact k26_mkM _ _ _ (⟨(rd_T26 l0 x12_5).f0, (rd_T26 l0 x12_5).f1, (rd_T26 l0 x12_5).f2, (rd_T26 l0 x12_5).f3, (rd_T26 l0 x12_5).f4⟩ : S26)); (case aB => exact (by repeat (first | (with_reducible first | exact HB.out | apply below_alloc | apply pw_below_drewN | apply below_drew1) | exact HB.out))); (case aF => exact (fun k_ hk => Kd.fresh' (Kd.R_lt (by (with_reducible repeat (first | apply Kd.R_alloc | apply Kd.R_drewN | apply Kd.R_drew)); exact HO_8.out)) k_ hk)); (case aO => exact (by (with_reducible repeat (first | apply Kd.R_alloc | apply Kd.R_drewN | apply Kd.R_drew)); exact HO_11.out)); (case aS => exact (below_size (by repeat (first | (with_reducible first | exact HB.out | apply below_alloc | apply pw_below_drewN | apply below_drew1) | exact HB.out)))); (case aL => have := LMc38.out; omega); intro v191 w39 ho hb hg hat; rw [← Ny190.out] at ho; have n0_ := Aside0.mk (Kd.R_after (ok := (fun _ => True)) (by (with_reducible repeat (first | apply Kd.R_alloc | apply Kd.R_drewN | apply Kd.R_drew)); exact Kd.R_mono HO_8.out (fun _ hk => ⟨trivial, hk⟩)) hg hat); have n1_ := Aside0.mk (hb); have n2_ := Aside0.mk (ho); clear HO_8; clear HB; clear HO_11; have HO_8 := n0_; have HB := n1_; have HO192 := n2_; clear n0_ n1_ n2_; clear ho hb hg hat))
                                              repeat (go_quiet (first | ((with_reducible refine gate_builtin (b := .append) (xs := #[.tmp 94, .tmp 99]) rfl ?_); (try (refine gate_guard (by rfl) ?_; dsimp only)); at_builtin; refine Kd.R_append k26 (w0 := w) w.heap.size rfl (.tmp 94) (.tmp 99) 22 26 (.agg #[(.int .i64 0), (.int .i64 0), (.int .i64 0), (.bool false), (.string ⟨#[]⟩)]) 48 rfl Try.underlying22 info26 rfl (by decide) (by omega) u11 x11_5 (⟨(rd_T26 l0 x12_5).f0, (rd_T26 l0 x12_5).f1, (rd_T26 l0 x12_5).f2, (rd_T26 l0 x12_5).f3, (rd_T26 l0 x12_5).f4⟩ : S26) [.int .i64 ((rd_T26 l0 x12_5).f0), .int .i64 ((rd_T26 l0 x12_5).f1), .int .i64 ((rd_T26 l0 x12_5).f2), .bool ((rd_T26 l0 x12_5).f3), .string ((rd_T26 l0 x12_5).f4)] (fun k_ => some k_ ≠ (v178 : Value).ownBlock) (fun _ => False) rfl rfl ?aP (fun _ hk => hk.elim) ?aF ?aO ?aB ?aS ?aL ?_; (case aP => exact k26_mkM _ _ _ (⟨(rd_T26 l0 x12_5).f0, (rd_T26 l0 x12_5).f1, (rd_T26 l0 x12_5).f2, (rd_T26 l0 x12_5).f3, (rd_T26 l0 x12_5).f4⟩ : S26)); (case aB => exact (by repeat (first | (with_reducible first | exact HB.out | apply below_alloc | apply pw_below_drewN | apply below_drew1) | exact HB.out))); (case aF => exact (fun k_ hk => Kd.fresh' (Kd.R_lt (by (with_reducible repeat (first | apply Kd.R_alloc | apply Kd.R_drewN | apply Kd.R_drew)); exact HO_8.out)) k_ hk)); (case aO => exact (by (with_reducible repeat (first | apply Kd.R_alloc | apply Kd.R_drewN | apply Kd.R_drew)); exact HO_11.out)); (case aS => exact (below_size (by repeat (first | (with_reducible first | exact HB.out | apply below_alloc | apply pw_below_drewN | apply below_drew1) | exact HB.out)))); (case aL => have := LMc38.out; omega); intro v191 w39 ho hb hg hat; rw [← Ny190.out] at ho; have n0_ := Aside0.mk (Kd.R_after (ok := (fun _ => True)) (by (with_reducible repeat (first | apply Kd.R_alloc | apply Kd.R_drewN | apply Kd.R_drew)); exact Kd.R_mono HO_8.out (fun _ hk => ⟨trivial, hk⟩)) hg hat); have n1_ := Aside0.mk (hb); have n2_ := Aside0.mk (ho); clear HO_8; clear HB; clear HO_11; have HO_8 := n0_; have HB := n1_; have HO192 := n2_; clear n0_ n1_ n2_; clear ho hb hg hat)); try go_wp2_with (first | ((with_reducible refine gate_builtin (b := .append) (xs := #[.tmp 94, .tmp 99]) rfl ?_); (try (refine gate_guard (by rfl) ?_; dsimp only)); at_builtin; refine Kd.R_append k26 (w0 := w) w.heap.size rfl (.tmp 94) (.tmp 99) 22 26 (.agg #[(.int .i64 0), (.int .i64 0), (.int .i64 0), (.bool false), (.string ⟨#[]⟩)]) 48 rfl Try.underlying22 info26 rfl (by decide) (by omega) u11 x11_5 (⟨(rd_T26 l0 x12_5).f0, (rd_T26 l0 x12_5).f1, (rd_T26 l0 x12_5).f2, (rd_T26 l0 x12_5).f3, (rd_T26 l0 x12_5).f4⟩ : S26) [.int .i64 ((rd_T26 l0 x12_5).f0), .int .i64 ((rd_T26 l0 x12_5).f1), .int .i64 ((rd_T26 l0 x12_5).f2), .bool ((rd_T26 l0 x12_5).f3), .string ((rd_T26 l0 x12_5).f4)] (fun k_ => some k_ ≠ (v178 : Value).ownBlock) (fun _ => False) rfl rfl ?aP (fun _ hk => hk.elim) ?aF ?aO ?aB ?aS ?aL ?_; (case aP => exact k26_mkM _ _ _ (⟨(rd_T26 l0 x12_5).f0, (rd_T26 l0 x12_5).f1, (rd_T26 l0 x12_5).f2, (rd_T26 l0 x12_5).f3, (rd_T26 l0 x12_5).f4⟩ : S26)); (case aB => exact (by repeat (first | (with_reducible first | exact HB.out | apply below_alloc | apply pw_below_drewN | apply below_drew1) | exact HB.out))); (case aF => exact (fun k_ hk => Kd.fresh' (Kd.R_lt (by (with_reducible repeat (first | apply Kd.R_alloc | apply Kd.R_drewN | apply Kd.R_drew)); exact HO_8.out)) k_ hk)); (case aO => exact (by (with_reducible repeat (first | apply Kd.R_alloc | apply Kd.R_drewN | apply Kd.R_drew)); exact HO_11.out)); (case aS => exact (below_size (by repeat (first | (with_reducible first | exact HB.out | apply below_alloc | apply pw_below_drewN | apply below_drew1) | exact HB.out)))); (case aL => have := LMc38.out; omega); intro v191 w39 ho hb hg hat; rw [← Ny190.out] at ho; have n0_ := Aside0.mk (Kd.R_after (ok := (fun _ => True)) (by (with_reducible repeat (first | apply Kd.R_alloc | apply Kd.R_drewN | apply Kd.R_drew)); exact Kd.R_mono HO_8.out (fun _ hk => ⟨trivial, hk⟩)) hg hat); have n1_ := Aside0.mk (hb); have n2_ := Aside0.mk (ho); clear HO_8; clear HB; clear HO_11; have HO_8 := n0_; have HB := n1_; have HO192 := n2_; clear n0_ n1_ n2_; clear ho hb hg hat)))
                                              go_roundg kj24
                                              case measure => have := HJ3.out; have := HJ13.out; have := HJ19.out; have := HJ21.out; have := HK5.out; have := HJ24.out; omega
                                              case rel => exact ⟨(y190), (wrap64 (x12_5 + 1)), (x13_5), (by first | rfl | (simp; done) | (simp [*]; done)), (by first | rfl | (simp; done) | (simp [*]; done)), H', ⟨by have := HJ3.out; have := HJ13.out; have := HJ19.out; have := HJ21.out; have := HK5.out; have := HJ24.out; omega⟩, ⟨by (with_reducible repeat (first | apply Kd.R_alloc | apply Kd.R_drewN | apply Kd.R_drew)); exact Kd.R_mono HO_8.out (fun _ hk => hk.2)⟩, ⟨by (with_reducible repeat (first | apply Kd.R_alloc | apply Kd.R_drewN | apply Kd.R_drew)); exact HO192.out⟩, ⟨by repeat (first | (with_reducible first | exact HB.out | apply below_alloc | apply pw_below_drewN | apply below_drew1) | exact HB.out)⟩⟩
                                            · rw [if_neg c38] at H
                                              exact absurd H (by simp)
                                          · rw [if_neg c37] at H
                                            have c37b0 : decide (((rd_T26 l0 x12_5).f0) ≤ ((rd_T26 l1 x13_5).f0)) = false := decide_eq_false c37
                                            clear c37
                                            by_cases c40 : x11_5.length < 2932031007402
                                            · rw [if_pos c40] at H
                                              have LMc40 := Aside0.mk c40
                                              clear c40
                                              obtain ⟨y194, hy194⟩ : ∃ y_ : List (S26), y_ = (x11_5 ++ [(⟨(rd_T26 l1 x13_5).f0, (rd_T26 l1 x13_5).f1, (rd_T26 l1 x13_5).f2, (rd_T26 l1 x13_5).f3, (rd_T26 l1 x13_5).f4⟩ : S26)]) := ⟨_, rfl⟩
                                              replace H : (patchbaylaw4_PcapMerges.l0 kj24 l0 l1 t177 t180 y194 x12_5 (wrap64 (x13_5 + 1))) = some r := by first | (rw [hy194]; with_reducible exact H) | (have H2_ := (Option.bind_some _ _).symm.trans H; rw [hy194]; with_reducible exact H2_) | (have H2_ := (Option.bind_some _ _).symm.trans H; with_reducible exact H2_) | with_reducible exact H | (rw [hy194]; exact H) | exact H
                                              have Ny194 := Aside0.mk hy194
                                              clear hy194
                                              have H' := Aside0.mk H
                                              clear H
                                              have p187 : 0 ≤ (x12_5 : Int) := of_decide_eq_true (by first | (with_reducible assumption) | assumption)
                                              have q187 : x12_5 < (l0.length : Int) := of_decide_eq_true (by first | (with_reducible assumption) | assumption)
                                              obtain ⟨ad187, e187, hx187_0, hx187_1, hx187_2, hx187_3, hx187_4⟩ := at_T26 HR0.out x12_5 p187 q187
                                              cases e187
                                              replace hx187_0 := (HB.out.cell (World.block_lt_of_cell? w _ hx187_0)).trans hx187_0
                                              replace hx187_1 := (HB.out.cell (World.block_lt_of_cell? w _ hx187_1)).trans hx187_1
                                              replace hx187_2 := (HB.out.cell (World.block_lt_of_cell? w _ hx187_2)).trans hx187_2
                                              replace hx187_3 := (HB.out.cell (World.block_lt_of_cell? w _ hx187_3)).trans hx187_3
                                              replace hx187_4 := (HB.out.cell (World.block_lt_of_cell? w _ hx187_4)).trans hx187_4
                                              replace p187 := eq_true p187
                                              replace q187 := eq_true q187
                                              have p188 : 0 ≤ (x13_5 : Int) := of_decide_eq_true (by first | (with_reducible assumption) | assumption)
                                              have q188 : x13_5 < (l1.length : Int) := of_decide_eq_true (by first | (with_reducible assumption) | assumption)
                                              obtain ⟨ad188, e188, hx188_0, hx188_1, hx188_2, hx188_3, hx188_4⟩ := at_T26 HR1.out x13_5 p188 q188
                                              cases e188
                                              replace hx188_0 := (HB.out.cell (World.block_lt_of_cell? w _ hx188_0)).trans hx188_0
                                              replace hx188_1 := (HB.out.cell (World.block_lt_of_cell? w _ hx188_1)).trans hx188_1
                                              replace hx188_2 := (HB.out.cell (World.block_lt_of_cell? w _ hx188_2)).trans hx188_2
                                              replace hx188_3 := (HB.out.cell (World.block_lt_of_cell? w _ hx188_3)).trans hx188_3
                                              replace hx188_4 := (HB.out.cell (World.block_lt_of_cell? w _ hx188_4)).trans hx188_4
                                              replace p188 := eq_true p188
                                              replace q188 := eq_true q188
                                              have p193 : 0 ≤ (x13_5 : Int) := of_decide_eq_true (by first | (with_reducible assumption) | assumption)
                                              have q193 : x13_5 < (l1.length : Int) := of_decide_eq_true (by first | (with_reducible assumption) | assumption)
                                              obtain ⟨ad193, e193, hx193_0, hx193_1, hx193_2, hx193_3, hx193_4⟩ := at_T26 HR1.out x13_5 p193 q193
                                              obtain rfl : ad188 = ad193 := (by injection e193)
                                              replace hx193_0 := (HB.out.cell (World.block_lt_of_cell? w _ hx193_0)).trans hx193_0
                                              replace hx193_1 := (HB.out.cell (World.block_lt_of_cell? w _ hx193_1)).trans hx193_1
                                              replace hx193_2 := (HB.out.cell (World.block_lt_of_cell? w _ hx193_2)).trans hx193_2
                                              replace hx193_3 := (HB.out.cell (World.block_lt_of_cell? w _ hx193_3)).trans hx193_3
                                              replace hx193_4 := (HB.out.cell (World.block_lt_of_cell? w _ hx193_4)).trans hx193_4
                                              replace p193 := eq_true p193
                                              replace q193 := eq_true q193
                                              go_wp2_with (first | ((with_reducible refine gate_builtin (b := .append) (xs := #[.tmp 103, .tmp 108]) rfl ?_); (try (refine gate_guard (by rfl) ?_; dsimp only)); at_builtin; refine Kd.R_append k26 (w0 := w) w.heap.size rfl (.tmp 103) (.tmp 108) 22 26 (.agg #[(.int .i64 0), (.int .i64 0), (.int .i64 0), (.bool false), (.string ⟨#[]⟩)]) 48 rfl Try.underlying22 info26 rfl (by decide) (by omega) u11 x11_5 (⟨(rd_T26 l1 x13_5).f0, (rd_T26 l1 x13_5).f1, (rd_T26 l1 x13_5).f2, (rd_T26 l1 x13_5).f3, (rd_T26 l1 x13_5).f4⟩ : S26) [.int .i64 ((rd_T26 l1 x13_5).f0), .int .i64 ((rd_T26 l1 x13_5).f1), .int .i64 ((rd_T26 l1 x13_5).f2), .bool ((rd_T26 l1 x13_5).f3), .string ((rd_T26 l1 x13_5).f4)] (fun k_ => some k_ ≠ (v178 : Value).ownBlock) (fun _ => False) rfl rfl ?aP (fun _ hk => hk.elim) ?aF ?aO ?aB ?aS ?aL ?_; (case aP => exact k26_mkM _ _ _ (⟨(rd_T26 l1 x13_5).f0, (rd_T26 l1 x13_5).f1, (rd_T26 l1 x13_5).f2, (rd_T26 l1 x13_5).f3, (rd_T26 l1 x13_5).f4⟩ : S26)); (case aB => exact (by repeat (first | (with_reducible first | exact HB.out | apply below_alloc | apply pw_below_drewN | apply below_drew1) | exact HB.out))); (case aF => exact (fun k_ hk => Kd.fresh' (Kd.R_lt (by (with_reducible repeat (first | apply Kd.R_alloc | apply Kd.R_drewN | apply Kd.R_drew)); exact HO_8.out)) k_ hk)); (case aO => exact (by (with_reducible repeat (first | apply Kd.R_alloc | apply Kd.R_drewN | apply Kd.R_drew)); exact HO_11.out)); (case aS => exact (below_size (by repeat (first | (with_reducible first | exact HB.out | apply below_alloc | apply pw_below_drewN | apply below_drew1) | exact HB.out)))); (case aL => have := LMc40.out; omega); intro v195 w41 ho hb hg hat; rw [← Ny194.out] at ho; have n0_ := Aside0.mk (Kd.R_after (ok := (fun _ => True)) (by (with_reducible repeat (first | apply Kd.R_alloc | apply Kd.R_drewN | apply Kd.R_drew)); exact Kd.R_mono HO_8.out (fun _ hk => ⟨trivial, hk⟩)) hg hat); have n1_ := Aside0.mk (hb); have n2_ := Aside0.mk (ho); clear HO_8; clear HB; clear HO_11; have HO_8 := n0_; have HB := n1_; have HO196 := n2_; clear n0_ n1_ n2_; clear ho hb hg hat))
                                              repeat (go_quiet (first | ((with_reducible refine gate_builtin (b := .append) (xs := #[.tmp 103, .tmp 108]) rfl ?_); (try (refine gate_guard (by rfl) ?_; dsimp only)); at_builtin; refine Kd.R_append k26 (w0 := w) w.heap.size rfl (.tmp 103) (.tmp 108) 22 26 (.agg #[(.int .i64 0), (.int .i64 0), (.int .i64 0), (.bool false), (.string ⟨#[]⟩)]) 48 rfl Try.underlying22 info26 rfl (by decide) (by omega) u11 x11_5 (⟨(rd_T26 l1 x13_5).f0, (rd_T26 l1 x13_5).f1, (rd_T26 l1 x13_5).f2, (rd_T26 l1 x13_5).f3, (rd_T26 l1 x13_5).f4⟩ : S26) [.int .i64 ((rd_T26 l1 x13_5).f0), .int .i64 ((rd_T26 l1 x13_5).f1), .int .i64 ((rd_T26 l1 x13_5).f2), .bool ((rd_T26 l1 x13_5).f3), .string ((rd_T26 l1 x13_5).f4)] (fun k_ => some k_ ≠ (v178 : Value).ownBlock) (fun _ => False) rfl rfl ?aP (fun _ hk => hk.elim) ?aF ?aO ?aB ?aS ?aL ?_; (case aP => exact k26_mkM _ _ _ (⟨(rd_T26 l1 x13_5).f0, (rd_T26 l1 x13_5).f1, (rd_T26 l1 x13_5).f2, (rd_T26 l1 x13_5).f3, (rd_T26 l1 x13_5).f4⟩ : S26)); (case aB => exact (by repeat (first | (with_reducible first | exact HB.out | apply below_alloc | apply pw_below_drewN | apply below_drew1) | exact HB.out))); (case aF => exact (fun k_ hk => Kd.fresh' (Kd.R_lt (by (with_reducible repeat (first | apply Kd.R_alloc | apply Kd.R_drewN | apply Kd.R_drew)); exact HO_8.out)) k_ hk)); (case aO => exact (by (with_reducible repeat (first | apply Kd.R_alloc | apply Kd.R_drewN | apply Kd.R_drew)); exact HO_11.out)); (case aS => exact (below_size (by repeat (first | (with_reducible first | exact HB.out | apply below_alloc | apply pw_below_drewN | apply below_drew1) | exact HB.out)))); (case aL => have := LMc40.out; omega); intro v195 w41 ho hb hg hat; rw [← Ny194.out] at ho; have n0_ := Aside0.mk (Kd.R_after (ok := (fun _ => True)) (by (with_reducible repeat (first | apply Kd.R_alloc | apply Kd.R_drewN | apply Kd.R_drew)); exact Kd.R_mono HO_8.out (fun _ hk => ⟨trivial, hk⟩)) hg hat); have n1_ := Aside0.mk (hb); have n2_ := Aside0.mk (ho); clear HO_8; clear HB; clear HO_11; have HO_8 := n0_; have HB := n1_; have HO196 := n2_; clear n0_ n1_ n2_; clear ho hb hg hat)); try go_wp2_with (first | ((with_reducible refine gate_builtin (b := .append) (xs := #[.tmp 103, .tmp 108]) rfl ?_); (try (refine gate_guard (by rfl) ?_; dsimp only)); at_builtin; refine Kd.R_append k26 (w0 := w) w.heap.size rfl (.tmp 103) (.tmp 108) 22 26 (.agg #[(.int .i64 0), (.int .i64 0), (.int .i64 0), (.bool false), (.string ⟨#[]⟩)]) 48 rfl Try.underlying22 info26 rfl (by decide) (by omega) u11 x11_5 (⟨(rd_T26 l1 x13_5).f0, (rd_T26 l1 x13_5).f1, (rd_T26 l1 x13_5).f2, (rd_T26 l1 x13_5).f3, (rd_T26 l1 x13_5).f4⟩ : S26) [.int .i64 ((rd_T26 l1 x13_5).f0), .int .i64 ((rd_T26 l1 x13_5).f1), .int .i64 ((rd_T26 l1 x13_5).f2), .bool ((rd_T26 l1 x13_5).f3), .string ((rd_T26 l1 x13_5).f4)] (fun k_ => some k_ ≠ (v178 : Value).ownBlock) (fun _ => False) rfl rfl ?aP (fun _ hk => hk.elim) ?aF ?aO ?aB ?aS ?aL ?_; (case aP => exact k26_mkM _ _ _ (⟨(rd_T26 l1 x13_5).f0, (rd_T26 l1 x13_5).f1, (rd_T26 l1 x13_5).f2, (rd_T26 l1 x13_5).f3, (rd_T26 l1 x13_5).f4⟩ : S26)); (case aB => exact (by repeat (first | (with_reducible first | exact HB.out | apply below_alloc | apply pw_below_drewN | apply below_drew1) | exact HB.out))); (case aF => exact (fun k_ hk => Kd.fresh' (Kd.R_lt (by (with_reducible repeat (first | apply Kd.R_alloc | apply Kd.R_drewN | apply Kd.R_drew)); exact HO_8.out)) k_ hk)); (case aO => exact (by (with_reducible repeat (first | apply Kd.R_alloc | apply Kd.R_drewN | apply Kd.R_drew)); exact HO_11.out)); (case aS => exact (below_size (by repeat (first | (with_reducible first | exact HB.out | apply below_alloc | apply pw_below_drewN | apply below_drew1) | exact HB.out)))); (case aL => have := LMc40.out; omega); intro v195 w41 ho hb hg hat; rw [← Ny194.out] at ho; have n0_ := Aside0.mk (Kd.R_after (ok := (fun _ => True)) (by (with_reducible repeat (first | apply Kd.R_alloc | apply Kd.R_drewN | apply Kd.R_drew)); exact Kd.R_mono HO_8.out (fun _ hk => ⟨trivial, hk⟩)) hg hat); have n1_ := Aside0.mk (hb); have n2_ := Aside0.mk (ho); clear HO_8; clear HB; clear HO_11; have HO_8 := n0_; have HB := n1_; have HO196 := n2_; clear n0_ n1_ n2_; clear ho hb hg hat)))
                                              go_roundg kj24
                                              case measure => have := HJ3.out; have := HJ13.out; have := HJ19.out; have := HJ21.out; have := HK5.out; have := HJ24.out; omega
                                              case rel => exact ⟨(y194), (x12_5), (wrap64 (x13_5 + 1)), (by first | rfl | (simp; done) | (simp [*]; done)), (by first | rfl | (simp; done) | (simp [*]; done)), H', ⟨by have := HJ3.out; have := HJ13.out; have := HJ19.out; have := HJ21.out; have := HK5.out; have := HJ24.out; omega⟩, ⟨by (with_reducible repeat (first | apply Kd.R_alloc | apply Kd.R_drewN | apply Kd.R_drew)); exact Kd.R_mono HO_8.out (fun _ hk => hk.2)⟩, ⟨by (with_reducible repeat (first | apply Kd.R_alloc | apply Kd.R_drewN | apply Kd.R_drew)); exact HO196.out⟩, ⟨by repeat (first | (with_reducible first | exact HB.out | apply below_alloc | apply pw_below_drewN | apply below_drew1) | exact HB.out)⟩⟩
                                            · rw [if_neg c40] at H
                                              exact absurd H (by simp)
                                        · rw [if_neg c36] at H
                                          exact absurd H (by simp)
                                      · rw [if_neg c35] at H
                                        exact absurd H (by simp)
                                    · rw [if_neg c34] at H
                                      exact absurd H (by simp)
                                  · rw [if_neg c33] at H
                                    have c33b0 : decide (x12_5 < (l0.length : Int)) = false := decide_eq_false c33
                                    clear c33
                                    by_cases c42 : 0 ≤ x13_5
                                    · rw [if_pos c42] at H
                                      have c42b0 : decide (0 ≤ x13_5) = true := decide_eq_true c42
                                      clear c42
                                      by_cases c43 : x13_5 < (l1.length : Int)
                                      · rw [if_pos c43] at H
                                        have c43b0 : decide (x13_5 < (l1.length : Int)) = true := decide_eq_true c43
                                        clear c43
                                        by_cases c44 : x11_5.length < 2932031007402
                                        · rw [if_pos c44] at H
                                          have LMc44 := Aside0.mk c44
                                          clear c44
                                          obtain ⟨y198, hy198⟩ : ∃ y_ : List (S26), y_ = (x11_5 ++ [(⟨(rd_T26 l1 x13_5).f0, (rd_T26 l1 x13_5).f1, (rd_T26 l1 x13_5).f2, (rd_T26 l1 x13_5).f3, (rd_T26 l1 x13_5).f4⟩ : S26)]) := ⟨_, rfl⟩
                                          replace H : (patchbaylaw4_PcapMerges.l0 kj24 l0 l1 t177 t180 y198 x12_5 (wrap64 (x13_5 + 1))) = some r := by first | (rw [hy198]; with_reducible exact H) | (have H2_ := (Option.bind_some _ _).symm.trans H; rw [hy198]; with_reducible exact H2_) | (have H2_ := (Option.bind_some _ _).symm.trans H; with_reducible exact H2_) | with_reducible exact H | (rw [hy198]; exact H) | exact H
                                          have Ny198 := Aside0.mk hy198
                                          clear hy198
                                          have H' := Aside0.mk H
                                          clear H
                                          have p197 : 0 ≤ (x13_5 : Int) := of_decide_eq_true (by first | (with_reducible assumption) | assumption)
                                          have q197 : x13_5 < (l1.length : Int) := of_decide_eq_true (by first | (with_reducible assumption) | assumption)
                                          obtain ⟨ad197, e197, hx197_0, hx197_1, hx197_2, hx197_3, hx197_4⟩ := at_T26 HR1.out x13_5 p197 q197
                                          cases e197
                                          replace hx197_0 := (HB.out.cell (World.block_lt_of_cell? w _ hx197_0)).trans hx197_0
                                          replace hx197_1 := (HB.out.cell (World.block_lt_of_cell? w _ hx197_1)).trans hx197_1
                                          replace hx197_2 := (HB.out.cell (World.block_lt_of_cell? w _ hx197_2)).trans hx197_2
                                          replace hx197_3 := (HB.out.cell (World.block_lt_of_cell? w _ hx197_3)).trans hx197_3
                                          replace hx197_4 := (HB.out.cell (World.block_lt_of_cell? w _ hx197_4)).trans hx197_4
                                          replace p197 := eq_true p197
                                          replace q197 := eq_true q197
                                          go_wp2_with (first | ((with_reducible refine gate_builtin (b := .append) (xs := #[.tmp 103, .tmp 108]) rfl ?_); (try (refine gate_guard (by rfl) ?_; dsimp only)); at_builtin; refine Kd.R_append k26 (w0 := w) w.heap.size rfl (.tmp 103) (.tmp 108) 22 26 (.agg #[(.int .i64 0), (.int .i64 0), (.int .i64 0), (.bool false), (.string ⟨#[]⟩)]) 48 rfl Try.underlying22 info26 rfl (by decide) (by omega) u11 x11_5 (⟨(rd_T26 l1 x13_5).f0, (rd_T26 l1 x13_5).f1, (rd_T26 l1 x13_5).f2, (rd_T26 l1 x13_5).f3, (rd_T26 l1 x13_5).f4⟩ : S26) [.int .i64 ((rd_T26 l1 x13_5).f0), .int .i64 ((rd_T26 l1 x13_5).f1), .int .i64 ((rd_T26 l1 x13_5).f2), .bool ((rd_T26 l1 x13_5).f3), .string ((rd_T26 l1 x13_5).f4)] (fun k_ => some k_ ≠ (v178 : Value).ownBlock) (fun _ => False) rfl rfl ?aP (fun _ hk => hk.elim) ?aF ?aO ?aB ?aS ?aL ?_; (case aP => exact k26_mkM _ _ _ (⟨(rd_T26 l1 x13_5).f0, (rd_T26 l1 x13_5).f1, (rd_T26 l1 x13_5).f2, (rd_T26 l1 x13_5).f3, (rd_T26 l1 x13_5).f4⟩ : S26)); (case aB => exact (by repeat (first | (with_reducible first | exact HB.out | apply below_alloc | apply pw_below_drewN | apply below_drew1) | exact HB.out))); (case aF => exact (fun k_ hk => Kd.fresh' (Kd.R_lt (by (with_reducible repeat (first | apply Kd.R_alloc | apply Kd.R_drewN | apply Kd.R_drew)); exact HO_8.out)) k_ hk)); (case aO => exact (by (with_reducible repeat (first | apply Kd.R_alloc | apply Kd.R_drewN | apply Kd.R_drew)); exact HO_11.out)); (case aS => exact (below_size (by repeat (first | (with_reducible first | exact HB.out | apply below_alloc | apply pw_below_drewN | apply below_drew1) | exact HB.out)))); (case aL => have := LMc44.out; omega); intro v199 w45 ho hb hg hat; rw [← Ny198.out] at ho; have n0_ := Aside0.mk (Kd.R_after (ok := (fun _ => True)) (by (with_reducible repeat (first | apply Kd.R_alloc | apply Kd.R_drewN | apply Kd.R_drew)); exact Kd.R_mono HO_8.out (fun _ hk => ⟨trivial, hk⟩)) hg hat); have n1_ := Aside0.mk (hb); have n2_ := Aside0.mk (ho); clear HO_8; clear HB; clear HO_11; have HO_8 := n0_; have HB := n1_; have HO200 := n2_; clear n0_ n1_ n2_; clear ho hb hg hat))
                                          repeat (go_quiet (first | ((with_reducible refine gate_builtin (b := .append) (xs := #[.tmp 103, .tmp 108]) rfl ?_); (try (refine gate_guard (by rfl) ?_; dsimp only)); at_builtin; refine Kd.R_append k26 (w0 := w) w.heap.size rfl (.tmp 103) (.tmp 108) 22 26 (.agg #[(.int .i64 0), (.int .i64 0), (.int .i64 0), (.bool false), (.string ⟨#[]⟩)]) 48 rfl Try.underlying22 info26 rfl (by decide) (by omega) u11 x11_5 (⟨(rd_T26 l1 x13_5).f0, (rd_T26 l1 x13_5).f1, (rd_T26 l1 x13_5).f2, (rd_T26 l1 x13_5).f3, (rd_T26 l1 x13_5).f4⟩ : S26) [.int .i64 ((rd_T26 l1 x13_5).f0), .int .i64 ((rd_T26 l1 x13_5).f1), .int .i64 ((rd_T26 l1 x13_5).f2), .bool ((rd_T26 l1 x13_5).f3), .string ((rd_T26 l1 x13_5).f4)] (fun k_ => some k_ ≠ (v178 : Value).ownBlock) (fun _ => False) rfl rfl ?aP (fun _ hk => hk.elim) ?aF ?aO ?aB ?aS ?aL ?_; (case aP => exact k26_mkM _ _ _ (⟨(rd_T26 l1 x13_5).f0, (rd_T26 l1 x13_5).f1, (rd_T26 l1 x13_5).f2, (rd_T26 l1 x13_5).f3, (rd_T26 l1 x13_5).f4⟩ : S26)); (case aB => exact (by repeat (first | (with_reducible first | exact HB.out | apply below_alloc | apply pw_below_drewN | apply below_drew1) | exact HB.out))); (case aF => exact (fun k_ hk => Kd.fresh' (Kd.R_lt (by (with_reducible repeat (first | apply Kd.R_alloc | apply Kd.R_drewN | apply Kd.R_drew)); exact HO_8.out)) k_ hk)); (case aO => exact (by (with_reducible repeat (first | apply Kd.R_alloc | apply Kd.R_drewN | apply Kd.R_drew)); exact HO_11.out)); (case aS => exact (below_size (by repeat (first | (with_reducible first | exact HB.out | apply below_alloc | apply pw_below_drewN | apply below_drew1) | exact HB.out)))); (case aL => have := LMc44.out; omega); intro v199 w45 ho hb hg hat; rw [← Ny198.out] at ho; have n0_ := Aside0.mk (Kd.R_after (ok := (fun _ => True)) (by (with_reducible repeat (first | apply Kd.R_alloc | apply Kd.R_drewN | apply Kd.R_drew)); exact Kd.R_mono HO_8.out (fun _ hk => ⟨trivial, hk⟩)) hg hat); have n1_ := Aside0.mk (hb); have n2_ := Aside0.mk (ho); clear HO_8; clear HB; clear HO_11; have HO_8 := n0_; have HB := n1_; have HO200 := n2_; clear n0_ n1_ n2_; clear ho hb hg hat)); try go_wp2_with (first | ((with_reducible refine gate_builtin (b := .append) (xs := #[.tmp 103, .tmp 108]) rfl ?_); (try (refine gate_guard (by rfl) ?_; dsimp only)); at_builtin; refine Kd.R_append k26 (w0 := w) w.heap.size rfl (.tmp 103) (.tmp 108) 22 26 (.agg #[(.int .i64 0), (.int .i64 0), (.int .i64 0), (.bool false), (.string ⟨#[]⟩)]) 48 rfl Try.underlying22 info26 rfl (by decide) (by omega) u11 x11_5 (⟨(rd_T26 l1 x13_5).f0, (rd_T26 l1 x13_5).f1, (rd_T26 l1 x13_5).f2, (rd_T26 l1 x13_5).f3, (rd_T26 l1 x13_5).f4⟩ : S26) [.int .i64 ((rd_T26 l1 x13_5).f0), .int .i64 ((rd_T26 l1 x13_5).f1), .int .i64 ((rd_T26 l1 x13_5).f2), .bool ((rd_T26 l1 x13_5).f3), .string ((rd_T26 l1 x13_5).f4)] (fun k_ => some k_ ≠ (v178 : Value).ownBlock) (fun _ => False) rfl rfl ?aP (fun _ hk => hk.elim) ?aF ?aO ?aB ?aS ?aL ?_; (case aP => exact k26_mkM _ _ _ (⟨(rd_T26 l1 x13_5).f0, (rd_T26 l1 x13_5).f1, (rd_T26 l1 x13_5).f2, (rd_T26 l1 x13_5).f3, (rd_T26 l1 x13_5).f4⟩ : S26)); (case aB => exact (by repeat (first | (with_reducible first | exact HB.out | apply below_alloc | apply pw_below_drewN | apply below_drew1) | exact HB.out))); (case aF => exact (fun k_ hk => Kd.fresh' (Kd.R_lt (by (with_reducible repeat (first | apply Kd.R_alloc | apply Kd.R_drewN | apply Kd.R_drew)); exact HO_8.out)) k_ hk)); (case aO => exact (by (with_reducible repeat (first | apply Kd.R_alloc | apply Kd.R_drewN | apply Kd.R_drew)); exact HO_11.out)); (case aS => exact (below_size (by repeat (first | (with_reducible first | exact HB.out | apply below_alloc | apply pw_below_drewN | apply below_drew1) | exact HB.out)))); (case aL => have := LMc44.out; omega); intro v199 w45 ho hb hg hat; rw [← Ny198.out] at ho; have n0_ := Aside0.mk (Kd.R_after (ok := (fun _ => True)) (by (with_reducible repeat (first | apply Kd.R_alloc | apply Kd.R_drewN | apply Kd.R_drew)); exact Kd.R_mono HO_8.out (fun _ hk => ⟨trivial, hk⟩)) hg hat); have n1_ := Aside0.mk (hb); have n2_ := Aside0.mk (ho); clear HO_8; clear HB; clear HO_11; have HO_8 := n0_; have HB := n1_; have HO200 := n2_; clear n0_ n1_ n2_; clear ho hb hg hat)))
                                          go_roundg kj24
                                          case measure => have := HJ3.out; have := HJ13.out; have := HJ19.out; have := HJ21.out; have := HK5.out; have := HJ24.out; omega
                                          case rel => exact ⟨(y198), (x12_5), (wrap64 (x13_5 + 1)), (by first | rfl | (simp; done) | (simp [*]; done)), (by first | rfl | (simp; done) | (simp [*]; done)), H', ⟨by have := HJ3.out; have := HJ13.out; have := HJ19.out; have := HJ21.out; have := HK5.out; have := HJ24.out; omega⟩, ⟨by (with_reducible repeat (first | apply Kd.R_alloc | apply Kd.R_drewN | apply Kd.R_drew)); exact Kd.R_mono HO_8.out (fun _ hk => hk.2)⟩, ⟨by (with_reducible repeat (first | apply Kd.R_alloc | apply Kd.R_drewN | apply Kd.R_drew)); exact HO200.out⟩, ⟨by repeat (first | (with_reducible first | exact HB.out | apply below_alloc | apply pw_below_drewN | apply below_drew1) | exact HB.out)⟩⟩
                                        · rw [if_neg c44] at H
                                          exact absurd H (by simp)
                                      · rw [if_neg c43] at H
                                        exact absurd H (by simp)
                                    · rw [if_neg c42] at H
                                      exact absurd H (by simp)
                              · replace c27 := Bool.eq_false_iff.mpr c27
                                subst c27
                                have H1 : (if t180 = 0 then ((patchbayref4_SameCapture.f kj24 t177 x11_5).bind fun t201 => (some t201)) else (some false)) = some r := by rw [if_neg (show ¬ (false = true) by decide)] at H; exact H
                                clear H
                                have H := H1
                                clear H1
                                by_cases c46 : t180 = 0
                                · rw [if_pos c46] at H
                                  have c46b0 : (t180 == 0) = true := beq_iff_eq.mpr c46
                                  have c46b1 : (t180 != 0) = false := bne_eq_false_iff_eq.mpr c46
                                  clear c46
                                  replace H := Option.bind_eq_some_iff.mp H
                                  obtain ⟨t201, A470, H⟩ := H
                                  replace H : (some t201) = some r := H
                                  have A47 := Aside0.mk A470
                                  clear A470
                                  obtain rfl := Option.some.inj H
                                  obtain ⟨Ao48, co48, eo48⟩ := Kd.R_slice HO_8.out
                                  subst eo48
                                  obtain ⟨Ao49, co49, eo49⟩ := Kd.R_slice HO_11.out
                                  subst eo49
                                  go_wp2_with (first | (go_at_call 23; (with_reducible refine (patchbayref4_SameCapture.calls kj24 _ _ t177 _ _ x11_5 t201 _ ?side1 ?side2 ?side3 ?side4 A47.out).mono ?_); (case side1 => repeat (first | exact (Kd.R_reads' HO_8.out).2.2 | (with_reducible refine Kd.C_alloc ?_ _) | (with_reducible refine Kd.C_drewN ?_ _) | (with_reducible refine Kd.C_drew ?_))); (case side2 => exact (Kd.R_reads' HO_8.out).2.1); (case side3 => repeat (first | exact (Kd.R_reads' HO_11.out).2.2 | (with_reducible refine Kd.C_alloc ?_ _) | (with_reducible refine Kd.C_drewN ?_ _) | (with_reducible refine Kd.C_drew ?_))); (case side4 => exact (Kd.R_reads' HO_11.out).2.1); rintro e w' ⟨rfl, ⟨nd, rfl⟩⟩; (try first | exact ⟨rfl, _, World.drewN_drewN _ _ _⟩ | exact ⟨rfl, _, Eq.trans (World.drewN_drewN _ _ _) (congrArg (World.drewN _) (Nat.add_assoc _ _ _))⟩)))
                                  repeat (go_quiet (first | (go_at_call 23; (with_reducible refine (patchbayref4_SameCapture.calls kj24 _ _ t177 _ _ x11_5 t201 _ ?side1 ?side2 ?side3 ?side4 A47.out).mono ?_); (case side1 => repeat (first | exact (Kd.R_reads' HO_8.out).2.2 | (with_reducible refine Kd.C_alloc ?_ _) | (with_reducible refine Kd.C_drewN ?_ _) | (with_reducible refine Kd.C_drew ?_))); (case side2 => exact (Kd.R_reads' HO_8.out).2.1); (case side3 => repeat (first | exact (Kd.R_reads' HO_11.out).2.2 | (with_reducible refine Kd.C_alloc ?_ _) | (with_reducible refine Kd.C_drewN ?_ _) | (with_reducible refine Kd.C_drew ?_))); (case side4 => exact (Kd.R_reads' HO_11.out).2.1); rintro e w' ⟨rfl, ⟨nd, rfl⟩⟩; (try first | exact ⟨rfl, _, World.drewN_drewN _ _ _⟩ | exact ⟨rfl, _, Eq.trans (World.drewN_drewN _ _ _) (congrArg (World.drewN _) (Nat.add_assoc _ _ _))⟩))); try go_wp2_with (first | (go_at_call 23; (with_reducible refine (patchbayref4_SameCapture.calls kj24 _ _ t177 _ _ x11_5 t201 _ ?side1 ?side2 ?side3 ?side4 A47.out).mono ?_); (case side1 => repeat (first | exact (Kd.R_reads' HO_8.out).2.2 | (with_reducible refine Kd.C_alloc ?_ _) | (with_reducible refine Kd.C_drewN ?_ _) | (with_reducible refine Kd.C_drew ?_))); (case side2 => exact (Kd.R_reads' HO_8.out).2.1); (case side3 => repeat (first | exact (Kd.R_reads' HO_11.out).2.2 | (with_reducible refine Kd.C_alloc ?_ _) | (with_reducible refine Kd.C_drewN ?_ _) | (with_reducible refine Kd.C_drew ?_))); (case side4 => exact (Kd.R_reads' HO_11.out).2.1); rintro e w' ⟨rfl, ⟨nd, rfl⟩⟩; (try first | exact ⟨rfl, _, World.drewN_drewN _ _ _⟩ | exact ⟨rfl, _, Eq.trans (World.drewN_drewN _ _ _) (congrArg (World.drewN _) (Nat.add_assoc _ _ _))⟩))))
                                  go_ret
                                  exact ⟨by first | rfl | (simp [errW_none, errW_some] <;> rfl) | (simp [*, errW_none, errW_some] <;> rfl), by repeat (first | (with_reducible first | exact HB.out | apply below_alloc | apply pw_below_drewN | apply below_drew1) | exact HB.out)⟩
                                · rw [if_neg c46] at H
                                  have c46b0 : (t180 == 0) = false := beq_eq_false_iff_ne.mpr c46
                                  have c46b1 : (t180 != 0) = true := bne_iff_ne.mpr c46
                                  obtain rfl := Option.some.inj H
                                  go_wp2
                                  repeat (go_quiet (fail); try go_wp2)
                                  go_ret
                                  exact ⟨by first | rfl | (simp [errW_none, errW_some] <;> rfl) | (simp [*, errW_none, errW_some] <;> rfl), by repeat (first | (with_reducible first | exact HB.out | apply below_alloc | apply pw_below_drewN | apply below_drew1) | exact HB.out)⟩
                    · rw [if_neg c24] at H
                      have c24b0 : (x10_21 == 0) = false := beq_eq_false_iff_ne.mpr c24
                      have c24b1 : (x10_21 != 0) = true := bne_iff_ne.mpr c24
                      by_cases c50 : t180 = x10_21
                      · rw [if_pos c50] at H
                        have c50b0 : (t180 == x10_21) = true := beq_iff_eq.mpr c50
                        have c50b1 : (t180 != x10_21) = false := bne_eq_false_iff_eq.mpr c50
                        clear c50
                        obtain rfl := Option.some.inj H
                        obtain ⟨Ao51, co51, eo51⟩ := Kd.R_slice HO_8.out
                        subst eo51
                        go_wp2
                        repeat (go_quiet (fail); try go_wp2)
                        go_ret
                        exact ⟨by first | rfl | (simp [errW_none, errW_some] <;> rfl) | (simp [*, errW_none, errW_some] <;> rfl), by repeat (first | (with_reducible first | exact HB.out | apply below_alloc | apply pw_below_drewN | apply below_drew1) | exact HB.out)⟩
                      · rw [if_neg c50] at H
                        have c50b0 : (t180 == x10_21) = false := beq_eq_false_iff_ne.mpr c50
                        have c50b1 : (t180 != x10_21) = true := bne_iff_ne.mpr c50
                        obtain rfl := Option.some.inj H
                        go_wp2
                        repeat (go_quiet (fail); try go_wp2)
                        go_ret
                        exact ⟨by first | rfl | (simp [errW_none, errW_some] <;> rfl) | (simp [*, errW_none, errW_some] <;> rfl), by repeat (first | (with_reducible first | exact HB.out | apply below_alloc | apply pw_below_drewN | apply below_drew1) | exact HB.out)⟩

end Go.Proofs.Ytkolbflmihfokaa.Merge
